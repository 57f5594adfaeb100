/-
  Contracts of functions that write: states, rows that grow, boxes.
-/
import Derived.Test.YtfaodjpibdhdjaaDoorAmWp
import Derived.Test.YtfaodjpibdhdjaaDoorAmOps2
set_option linter.all false
set_option linter.unusedVariables false
set_option linter.unusedSimpArgs false
set_option linter.unusedSectionVars false
set_option linter.constructorNameAsVariable false
namespace Go.Proofs.YtfaodjpibdhdjaaDoor.Am

/-- What a function's end must come to, where its result may bear addresses. -/
def KG (s : St) (res : List (Nat × Option (Bool × Nat))) (cout : List CT) (Post : AV → St → Prop) : Ex → Tr → St → Prop
  | .x _, _, _ => False
  | .n, e, s1 => ∃ vs s2, resOf e s1 res = some (vs, s2) ∧ Post (tupOf (wkZ cout vs)) (leave s s2 (tupOf vs))
  | .r, e, s1 => ∃ vs s2, resOf e s1 res = some (vs, s2) ∧ Post (tupOf (wkZ cout vs)) (leave s s2 (tupOf vs))
def KH (s : St) (cout : List CT) (Post : AV → St → Prop) (o : Option (List AV × St)) : Prop := ∃ vs s2, o = some (vs, s2) ∧ Post (tupOf (wkZ cout vs)) (leave s s2 (tupOf vs))
theorem KG_n (s : St) (res : List (Nat × Option (Bool × Nat))) (cout : List CT) (Post : AV → St → Prop) (e : Tr) (s1 : St) : KG s res cout Post .n e s1 ↔ KH s cout Post (resOf e s1 res) := Iff.rfl
theorem KG_r (s : St) (res : List (Nat × Option (Bool × Nat))) (cout : List CT) (Post : AV → St → Prop) (e : Tr) (s1 : St) : KG s res cout Post .r e s1 ↔ KH s cout Post (resOf e s1 res) := Iff.rfl
@[congr] theorem KG_congr {s : St} {res : List (Nat × Option (Bool × Nat))} {cout : List CT} {Post : AV → St → Prop} {x : Ex} {e e' : Tr} {s1 s1' : St} (h1 : e = e') (h2 : s1 = s1') : KG s res cout Post x e s1 = KG s res cout Post x e' s1' := by rw [h1, h2]
@[congr] theorem KH_congr {s : St} {cout : List CT} {Post : AV → St → Prop} {o o' : Option (List AV × St)} (h : o = o') : KH s cout Post o = KH s cout Post o' := by rw [h]

theorem fn_G {prog : Nat → Option Fun} {f : Nat} {fn : Fun} {args : List AV} {s : St} {Post : AV → St → Prop} (hp : prog f = some fn) (hk : fn.keep = false) (hn : Nat.ble args.length fn.ntmps = true)
    (h : W (lim prog) fn.body (initT 0 (wkZ fn.cin args) .e) s.enter (KG s fn.res fn.cout Post)) (hpr : fn.prim = none := by rfl) : ∃ r s', (lim prog).call f args s = some (r, s') ∧ Post r s' := by
  rw [lim_call]
  unfold callF
  have hb : ∀ l, both fn l = none := fun l => by unfold both; rw [hk]
  simp only [hp, hpr, hn, hb]
  unfold callB
  unfold W St.enter at h
  cases hc : evC (lim prog) fn.body (initT 0 (wkZ fn.cin args) .e) { s with lo := s.nb } with
  | none => rw [hc] at h; exact h.elim
  | some t =>
  obtain ⟨x, e, s1⟩ := t
  rw [hc] at h
  cases x with
  | x i => exact h.elim
  | n =>
    obtain ⟨vs, s2, k1, k2⟩ := h
    simp only [hk, k1]
    exact ⟨_, _, rfl, k2⟩
  | r =>
    obtain ⟨vs, s2, k1, k2⟩ := h
    simp only [hk, k1]
    exact ⟨_, _, rfl, k2⟩

theorem W_thw {σ : Self} {e : Tr} {s : St} {Q : Ex → Tr → St → Prop} (t : Nat) : W σ (.thw t) e s Q ↔ WS (thawA s (e.get t)) (fun v s => Q .n (e.set 10 t v) s) := by
  unfold W WS
  simp only [evC]
  cases thawA s (e.get t) <;> exact Iff.rfl
theorem pubC_agg (s : St) (l : List AV) : pub s (.agg l) = some (.agg l, s) := rfl
theorem pubC_s (s : St) (l : List Nat) : pub s (.s l) = some (.s l, s) := rfl
theorem pubC_i (s : St) (k : IntKind) (n : Int) : pub s (.i k n) = some (.i k n, s) := rfl
theorem pubC_b (s : St) (b : Bool) : pub s (.b b) = some (.b b, s) := rfl
theorem pubC_p (s : St) (a b : Nat) : pub s (.p a b) = some (.p a b, s) := rfl
theorem pubC_np (s : St) : pub s .np = some (.np, s) := rfl
theorem pubC_nsl (s : St) : pub s .nsl = some (.nsl, s) := rfl
theorem pubC_ws (s : St) (f : Bool) (n : Nat) (l : List AV) : pub s (.ws f n l) = some (.ws f n l, s) := rfl
theorem pubC_full (s : St) (n : Nat) (l : List AV) : pub s (.sl n l .full) = some (.sl n l .full, s) := rfl
theorem pubC_shut (s : St) (n : Nat) (l : List AV) : pub s (.sl n l .shut) = some (.sl n l .shut, s) := rfl
theorem pubC_fn (s : St) (f : Nat) (l : List AV) : pub s (.fn f l) = some (.fn f l, s) := rfl
/-- A state whose lists are as long as it says. -/
structure Wf (s : St) : Prop where
  b : s.boxes.length = s.nb
  t : s.toks.length = s.nt
section
variable {s s0 : St}
theorem Wf.enter (h : Wf s) : Wf s.enter := ⟨h.b, h.t⟩
theorem Wf.lo (h : Wf s) (n : Nat) : Wf { s with lo := n } := ⟨h.b, h.t⟩
theorem Wf.new (h : Wf s) (B : Box) : Wf (s.new B) := ⟨by simp [St.new, h.b], h.t⟩
theorem Wf.setBox (h : Wf s) (id : Nat) (B : Box) : Wf (s.setBox id B) := ⟨by simp [St.setBox, h.b], h.t⟩
theorem Wf.setTok (h : Wf s) (k : Nat) (t : Tok) : Wf (s.setTok k t) := ⟨h.b, by simp [St.setTok, h.t]⟩
theorem Wf.newTok (h : Wf s) (n : Nat) (T : Option Nat) : Wf (s.newTok n T) := ⟨h.b, by simp [St.newTok, h.t]⟩
theorem Wf.esc (h : Wf s) (id : Nat) (v : AV) : Wf (Am.esc s id v) := by unfold Am.esc; split <;> exact ⟨h.b, h.t⟩

theorem new_box_lt {B : Box} {id : Nat} (h : id < s.nb) : (s.new B).box? id = s.box? id := by rw [new_box?, if_neg (by omega)]
theorem enter_box (id : Nat) : s.enter.box? id = s.box? id := rfl
theorem lo_box (n id : Nat) : ({ s with lo := n } : St).box? id = s.box? id := rfl

/-- A row that nobody else knows: t0 and above. -/
def RowIs (t0 : Nat) (s : St) (T : Nat) (a : AV) (xs : List AV) : Prop :=
  (a = .nsl ∧ xs = []) ∨ ∃ k v t, a = .sl 1 xs (.tok k v) ∧ t0 ≤ k ∧ k < s.nt ∧ s.tok? k = some t ∧ t.ver = v ∧ t.front = xs.length ∧ t.ty = some T ∧ 1 ≤ xs.length
/-- Which row. -/
def rowTok : AV → Option Nat
  | .sl _ _ (.tok k _) => some k
  | _ => none

theorem RowIs.mono {t0 T : Nat} {a : AV} {xs : List AV} {s s' : St} (h : RowIs t0 s T a xs) (hn : s.nt ≤ s'.nt) (ht : ∀ k, rowTok a = some k → s'.tok? k = s.tok? k) : RowIs t0 s' T a xs := by
  rcases h with h | ⟨k, v, t, rfl, h1, h2, h3, h4, h5, h6⟩
  · exact .inl h
  · exact .inr ⟨k, v, t, rfl, h1, by omega, by rw [ht k rfl]; exact h3, h4, h5, h6⟩

/-- What an append leaves. -/
structure Grew (t0 : Nat) (s s' : St) (a a' : AV) : Prop where
  nb : s'.nb = s.nb
  boxes : s'.boxes = s.boxes
  lo : s'.lo = s.lo
  nt : s.nt ≤ s'.nt
  over : ∀ s0 : St, s0.nt ≤ t0 → s0.nt ≤ s.nt → Over s0 s → Over s0 s'
  wf : Wf s → Wf s'
  toks : ∀ k, k < s.nt → rowTok a ≠ some k → s'.tok? k = s.tok? k ∧ rowTok a' ≠ some k

theorem app_row {t0 T : Nat} {a y : AV} {xs ys : List AV} (hw : Wf s) (ht0 : t0 ≤ s.nt) (hr : RowIs t0 s T a xs) (hy : elems s 1 y = some ys) (h1 : 1 ≤ ys.length) (hsz : xs.length + ys.length < 2 ^ 38) :
    ∃ a' s', appA s 1 T a y = some (a', s') ∧ RowIs t0 s' T a' (xs ++ ys) ∧ Grew t0 s s' a a' := by
  cases ys with
  | nil => simp at h1
  | cons y0 ys =>
  rcases hr with ⟨rfl, rfl⟩ | ⟨k, v, t, rfl, k1, k2, k3, k4, k5, k6, k7⟩
  · refine ⟨.sl 1 (y0 :: ys) (.tok s.nt 0), s.newTok (y0 :: ys).length (some T), ?_, ?_, ?_⟩
    · unfold appA
      rw [hy]
      simp only [Nat.mul_one]
      rw [if_pos (by simpa using hsz)]
    · exact .inr ⟨s.nt, 0, ⟨(y0 :: ys).length, 0, 0, some T⟩, rfl, ht0, by simp [St.newTok], by rw [newTok_tok?, if_pos rfl], rfl, rfl, rfl, by simp⟩
    · exact { nb := rfl, boxes := rfl, lo := rfl, nt := by simp [St.newTok], over := fun s0 _ _ h => h.withTok _, wf := fun h => h.newTok _ _, toks := fun j hj _ => ⟨by rw [newTok_tok?, if_neg (by omega)], by simp [rowTok]; omega⟩ }
  · refine ⟨.sl 1 (xs ++ y0 :: ys) (.tok k v), s.setTok k { t with front := xs.length + (y0 :: ys).length }, ?_, ?_, ?_⟩
    · unfold appA
      rw [hy]
      simp only [k3]
      rw [if_pos ⟨trivial, k4, k5, by rw [k6]; simp [tyOk], by simpa using hsz⟩]
    · refine .inr ⟨k, v, { t with front := xs.length + (y0 :: ys).length }, rfl, k1, k2, by rw [setTok_tok? hw.t k2, if_pos rfl], k4, by simp, k6, by simp; omega⟩
    · exact { nb := rfl, boxes := rfl, lo := rfl, nt := Nat.le_refl _, over := fun s0 h0 _ h => h.setTok (by omega) k2 _, wf := fun h => h.setTok _ _, toks := fun j hj hne => ⟨by rw [setTok_tok? hw.t k2, if_neg (fun hh => hne (by simp [rowTok, hh]))], by simpa [rowTok] using hne⟩ }

theorem ld_box {T off id : Nat} {l : List AV} {v : AV} (h : s.box? id = some (.cells T l)) (hc : l[off]? = some v) : ldA s false 1 (.p id off) = some v := by
  simp only [ldA, St.cells?, h, cut]
  have : (l.drop off).take 1 = [v] := by
    rw [List.take_one, List.head?_drop, hc]; rfl
  simp [this, scal]
theorem st_box {T off id : Nat} {l : List AV} {v : AV} (h : s.box? id = some (.cells T l)) (hv : v.cells = [v]) (h1 : ones [v] = true) (hoff : off < l.length) : stA s 1 (.p id off) v = some (esc (s.setBox id (.cells T (l.set off v))) id v) := by
  simp only [stA, h, hv]
  have : over l off [v] = some (l.set off v) := by
    unfold over
    rw [if_pos (by simp; omega), List.set_eq_take_append_cons_drop, if_pos hoff]
    rfl
  simp [this, h1]

/-- What a call does to a state, but for a box and for rows from t0 on. -/
structure Eff (t0 id : Nat) (s s' : St) : Prop where
  nb : s'.nb = s.nb
  nt : s.nt ≤ s'.nt
  box : ∀ j, j ≠ id → s'.box? j = s.box? j
  wf : Wf s'
  over : ∀ s0 : St, s0.nt ≤ t0 → s0.nb ≤ id → Over s0 s → Over s0 s'
  lo : (s'.lo = s.lo ∧ s'.nt = s.nt) ∨ s'.lo ≤ id

theorem Over.nt_le {s0 s1 : St} (h : Over s0 s1) : s0.nt ≤ s1.nt := h.nt

/-- A call's end where no box was made, and what was made is known outside. -/
theorem leave_esc {s1 : St} {v : AV} (hn : s1.nb = s.nb) (hlo : s1.lo < s.nb) : leave s s1 v = { s1 with lo := min s.lo s1.lo } := by
  unfold Am.leave
  have : Nat.ble s.nb s1.lo = false := by
    cases h : Nat.ble s.nb s1.lo with
    | false => rfl
    | true => rw [Nat.ble_eq] at h; omega
  rw [this]; rfl
/-- .. and where nothing was made. -/
theorem leave_same {s1 : St} {v : AV} (hn : s1.nb = s.nb) (ht : s1.nt = s.nt) (hlo : s.nb ≤ s1.lo) (hv : v.refs = false) : leave s s1 v = { s1 with lo := s.lo } := by
  unfold Am.leave
  have : Nat.ble s.nb s1.lo = true := by rw [Nat.ble_eq]; exact hlo
  rw [this, hv]
  obtain ⟨a, b, c, d, e⟩ := s1
  simp only at hn ht
  subst hn; subst ht
  simp

theorem end_box {sx : St} {id : Nat} {B : Box} {a : AV} (hid : id < s.nb) (hnb : sx.nb = s.nb) (hlo : s.nb ≤ sx.lo) (hnt : a.refs = true ∨ sx.nt = s.nt) :
    ∃ n, leave s (Am.esc (sx.setBox id B) id a) (.tup []) = { sx.setBox id B with lo := n } ∧ (∀ s0, Over s0 s → s0.nb ≤ id → s0.nb ≤ n) ∧ ((n = s.lo ∧ sx.nt = s.nt) ∨ n ≤ id) := by
  cases hr : a.refs with
  | true =>
    refine ⟨min s.lo (min sx.lo id), ?_, fun s0 h h1 => ?_, .inr (by omega)⟩
    · have e : Am.esc (sx.setBox id B) id a = { sx.setBox id B with lo := min sx.lo id } := by unfold Am.esc; rw [if_pos hr]; rfl
      rw [e, leave_esc (s := s) (s1 := { sx.setBox id B with lo := min sx.lo id }) hnb (by simp only; omega)]
    · have h2 := h.lo
      have h3 := h.nb
      omega
  | false =>
    refine ⟨s.lo, ?_, fun s0 h _ => h.lo, .inl ⟨rfl, by
      rcases hnt with h | h
      · rw [h] at hr; cases hr
      · exact h⟩⟩
    have e : Am.esc (sx.setBox id B) id a = sx.setBox id B := by unfold Am.esc; rw [hr]; rfl
    rw [e]
    rcases hnt with h | h
    · rw [h] at hr; cases hr
    · exact leave_same (s1 := sx.setBox id B) hnb h hlo rfl
theorem Over.setLo {s0 s1 : St} (h : Over s0 s1) {n : Nat} (hn : s0.nb ≤ n) : Over s0 { s1 with lo := n } := ⟨h.nb, h.boxes, h.nt, h.toks, hn⟩

theorem Eff.refl {t0 id : Nat} (hw : Wf s) : Eff t0 id s s := ⟨rfl, Nat.le_refl _, fun _ _ => rfl, hw, fun _ _ _ h => h, .inl ⟨rfl, rfl⟩⟩
theorem Eff.trans {t0 id : Nat} {s1 s2 : St} (h : Eff t0 id s s1) (k : Eff t0 id s1 s2) : Eff t0 id s s2 where
  nb := k.nb.trans h.nb
  nt := Nat.le_trans h.nt k.nt
  box := fun j hj => (k.box j hj).trans (h.box j hj)
  wf := k.wf
  over := fun s0 h0 h1 hov => k.over s0 h0 h1 (h.over s0 h0 h1 hov)
  lo := by
    rcases k.lo with ⟨k1, k2⟩ | k1
    · rcases h.lo with ⟨h1, h2⟩ | h1
      · exact .inl ⟨k1.trans h1, k2.trans h2⟩
      · exact .inr (by omega)
    · exact .inr k1
theorem Over.toEnter {s0 : St} (h : Over s0 s) : Over s0 s.enter := ⟨h.nb, h.boxes, h.nt, h.toks, h.nb⟩
/-- The end of a call that works on a box. -/
theorem Eff.leave {t0 id : Nat} {s1 : St} (hid : id < s.nb) (h : Eff t0 id s.enter s1) : ∃ n, Am.leave s s1 (.tup []) = { s1 with lo := n } ∧ Eff t0 id s { s1 with lo := n } := by
  have hnb : s1.nb = s.nb := h.nb
  rcases h.lo with ⟨h1, h2⟩ | h1
  · have h1 : s1.lo = s.nb := h1
    have h2 : s1.nt = s.nt := h2
    exact ⟨s.lo, leave_same hnb h2 (by omega) rfl, hnb, Nat.le_of_eq h2.symm, h.box, h.wf.lo _, fun s0 k0 k1 hov => (h.over s0 k0 k1 hov.toEnter).setLo hov.lo, .inl ⟨rfl, h2⟩⟩
  · refine ⟨min s.lo s1.lo, leave_esc hnb (by omega), hnb, h.nt, h.box, h.wf.lo _, fun s0 k0 k1 hov => (h.over s0 k0 k1 hov.toEnter).setLo ?_, .inr (by show min s.lo s1.lo ≤ id; omega)⟩
    have := (h.over s0 k0 k1 hov.toEnter).lo
    have := hov.lo
    omega
/-- .. of a call whose result bears no address. -/
theorem Eff.leave' {t0 id : Nat} {s1 : St} {v : AV} (hv : v.refs = false) (hid : id < s.nb) (h : Eff t0 id s.enter s1) : ∃ n, Am.leave s s1 v = { s1 with lo := n } ∧ Eff t0 id s { s1 with lo := n } := by
  have hnb : s1.nb = s.nb := h.nb
  rcases h.lo with ⟨h1, h2⟩ | h1
  · have h1 : s1.lo = s.nb := h1
    have h2 : s1.nt = s.nt := h2
    exact ⟨s.lo, leave_same hnb h2 (by omega) hv, hnb, Nat.le_of_eq h2.symm, h.box, h.wf.lo _, fun s0 k0 k1 hov => (h.over s0 k0 k1 hov.toEnter).setLo hov.lo, .inl ⟨rfl, h2⟩⟩
  · refine ⟨min s.lo s1.lo, leave_esc hnb (by omega), hnb, h.nt, h.box, h.wf.lo _, fun s0 k0 k1 hov => (h.over s0 k0 k1 hov.toEnter).setLo ?_, .inr (by show min s.lo s1.lo ≤ id; omega)⟩
    have := (h.over s0 k0 k1 hov.toEnter).lo
    have := hov.lo
    omega

/-- A store into the box. -/
theorem st_eff {t0 id : Nat} {B : Box} {v : AV} (hw : Wf s) (hid : id < s.nb) : Eff t0 id s (Am.esc (s.setBox id B) id v) := by
  obtain ⟨n, h1, h2, h3⟩ := esc_eq (s.setBox id B) id v
  have h2 : n ≤ s.lo := h2
  have hlo : n = s.lo ∨ n ≤ id := by
    cases hr : v.refs with
    | true => exact .inr (h3 hr)
    | false => 
      refine .inl ?_
      have e : Am.esc (s.setBox id B) id v = s.setBox id B := by unfold Am.esc; rw [hr]; rfl
      rw [e] at h1
      have := congrArg St.lo h1
      exact this.symm
  have hlo2 : ∀ s0 : St, s0.nb ≤ id → s0.nb ≤ s.lo → s0.nb ≤ n := fun s0 k1 k2 => by
    have e : n = (Am.esc (s.setBox id B) id v).lo := by rw [h1]
    rw [e]; unfold Am.esc
    split
    · show s0.nb ≤ min s.lo id; omega
    · exact k2
  rw [h1]
  refine ⟨rfl, Nat.le_refl _, fun j hj => ?_, (hw.setBox _ _).lo n, fun s0 k0 k1 hov => Over.setLo (Over.setBox hov k1 hid _) (hlo2 s0 k1 hov.lo), ?_⟩
  · show (s.setBox id B).box? j = _
    rw [setBox_box? hw.b hid, if_neg hj]
  · rcases hlo with h | h
    · exact .inl ⟨h, rfl⟩
    · exact .inr h
/-- An append into the box. -/
theorem app_eff {t0 id : Nat} {s2 : St} {B : Box} {a a' : AV} (hw : Wf s) (hid : id < s.nb) (hg : Grew t0 s s2 a a') (hr : a'.refs = true) (ht0 : t0 ≤ s.nt) : Eff t0 id s (Am.esc (s2.setBox id B) id a') := by
  have hid2 : id < s2.nb := by rw [hg.nb]; exact hid
  have w2 := hg.wf hw
  have h := st_eff (t0 := t0) (s := s2) (B := B) (v := a') w2 hid2
  have hlo : (Am.esc (s2.setBox id B) id a').lo ≤ id := by
    unfold Am.esc; rw [if_pos hr]
    show min s2.lo id ≤ id
    omega
  exact ⟨h.nb.trans hg.nb, Nat.le_trans hg.nt h.nt, fun j hj => (h.box j hj).trans (by simp [St.box?, hg.nb, hg.boxes]), h.wf, fun s0 k0 k1 hov => h.over s0 k0 k1 (hg.over s0 k0 hov.nt hov), .inr hlo⟩
theorem row_cells' {t0 T : Nat} {a : AV} {xs : List AV} (h : RowIs t0 s T a xs) : a.cells = [a] ∧ ones [a] = true := by
  rcases h with ⟨rfl, _⟩ | ⟨k, v, t, rfl, _⟩ <;> exact ⟨rfl, rfl⟩
theorem row_refs' {t0 T : Nat} {a : AV} {xs : List AV} (h : RowIs t0 s T a xs) (hx : xs ≠ []) : a.refs = true := by
  rcases h with ⟨_, rfl⟩ | ⟨k, v, t, rfl, _⟩
  · exact absurd rfl hx
  · rfl
/-- A row in a box's cell grows. -/
theorem app_st {t0 id T T' off : Nat} {cs : List AV} {a y : AV} {xs ys : List AV} (hw : Wf s) (ht0 : t0 ≤ s.nt) (hid : id < s.nb) (hb : s.box? id = some (.cells T' cs)) (hc : off < cs.length) (hr : RowIs t0 s T a xs) (hy : elems s 1 y = some ys) (hsz : xs.length + ys.length < 2 ^ 38) :
    ∃ a' s2 s3, appA s 1 T a y = some (a', s2) ∧ stA s2 1 (.p id off) a' = some s3 ∧ Eff t0 id s s3 ∧ s3.box? id = some (.cells T' (cs.set off a')) ∧ RowIs t0 s3 T a' (xs ++ ys) ∧ (∀ k, k < s.nt → rowTok a ≠ some k → s3.tok? k = s.tok? k ∧ rowTok a' ≠ some k) := by
  cases ys with
  | nil =>
    have happ : appA s 1 T a y = some (a, s) := by
      unfold appA
      rw [hy]
      rcases hr with ⟨rfl, _⟩ | ⟨k, v, t, rfl, _⟩ <;> rfl
    have e := st_box (s := s) (off := off) (v := a) hb (row_cells' hr).1 (row_cells' hr).2 hc
    refine ⟨a, s, _, happ, e, st_eff hw hid, ?_, ?_, ?_⟩
    · obtain ⟨n, h1, _⟩ := esc_eq (s.setBox id (.cells T' (cs.set off a))) id a
      rw [h1]
      show (s.setBox id _).box? id = _
      rw [setBox_box? hw.b hid, if_pos rfl]
    · rw [List.append_nil]
      obtain ⟨n, h1, _⟩ := esc_eq (s.setBox id (.cells T' (cs.set off a))) id a
      rw [h1]
      exact hr.mono (Nat.le_refl _) fun k _ => rfl
    · intro k hk hne
      obtain ⟨n, h1, _⟩ := esc_eq (s.setBox id (.cells T' (cs.set off a))) id a
      rw [h1]
      exact ⟨rfl, hne⟩
  | cons y0 ys =>
    obtain ⟨a', s2, happ, hr2, hg⟩ := app_row (t0 := t0) (T := T) (a := a) (y := y) hw ht0 hr hy (by simp) hsz
    have b2 : s2.box? id = some (.cells T' cs) := by rw [← hb]; simp [St.box?, hg.nb, hg.boxes]
    have e := st_box (s := s2) (off := off) (v := a') b2 (row_cells' hr2).1 (row_cells' hr2).2 hc
    have w2 := hg.wf hw
    have hid2 : id < s2.nb := by rw [hg.nb]; exact hid
    refine ⟨a', s2, _, happ, e, app_eff hw hid hg (row_refs' hr2 (by simp)) ht0, ?_, ?_, ?_⟩
    · obtain ⟨n, h1, _⟩ := esc_eq (s2.setBox id (.cells T' (cs.set off a'))) id a'
      rw [h1]
      show (s2.setBox id _).box? id = _
      rw [setBox_box? w2.b hid2, if_pos rfl]
    · obtain ⟨n, h1, _⟩ := esc_eq (s2.setBox id (.cells T' (cs.set off a'))) id a'
      rw [h1]
      exact hr2.mono (Nat.le_refl _) fun k _ => rfl
    · intro k hk hne
      obtain ⟨n, h1, _⟩ := esc_eq (s2.setBox id (.cells T' (cs.set off a'))) id a'
      rw [h1]
      exact hg.toks k hk hne
/-- A store of a value without addresses, or of the box's own address. -/
theorem st_cell {t0 id T' off : Nat} {cs : List AV} {v : AV} (hw : Wf s) (hid : id < s.nb) (hb : s.box? id = some (.cells T' cs)) (hc : off < cs.length) (hv : v.cells = [v]) (h1 : ones [v] = true) :
    ∃ s3, stA s 1 (.p id off) v = some s3 ∧ Eff t0 id s s3 ∧ s3.box? id = some (.cells T' (cs.set off v)) ∧ s3.nt = s.nt ∧ (∀ k, s3.tok? k = s.tok? k) := by
  have e := st_box (s := s) (off := off) (v := v) hb hv h1 hc
  obtain ⟨n, k1, _⟩ := esc_eq (s.setBox id (.cells T' (cs.set off v))) id v
  refine ⟨_, e, st_eff hw hid, ?_, ?_, ?_⟩
  · rw [k1]
    show (s.setBox id _).box? id = _
    rw [setBox_box? hw.b hid, if_pos rfl]
  · rw [k1]; rfl
  · intro k; rw [k1]; rfl
/-- A row of parts of es cells each that nobody else knows: t0 and above. -/
def RowE (es t0 : Nat) (s : St) (T : Nat) (a : AV) (xs : List AV) : Prop :=
  (a = .nsl ∧ xs = []) ∨ ∃ k v t, a = .sl es xs (.tok k v) ∧ t0 ≤ k ∧ k < s.nt ∧ s.tok? k = some t ∧ t.ver = v ∧ t.front = xs.length ∧ t.ty = some T ∧ 1 ≤ xs.length
theorem RowE.tok_lt {es t0 T : Nat} {a : AV} {xs : List AV} (h : RowE es t0 s T a xs) {k : Nat} (hk : rowTok a = some k) : k < s.nt := by
  rcases h with ⟨rfl, _⟩ | ⟨k', v, t, rfl, _, h2, _⟩
  · simp [rowTok] at hk
  · simp only [rowTok, Option.some.injEq] at hk; omega
theorem RowE.mono {es t0 T : Nat} {a : AV} {xs : List AV} {s s' : St} (h : RowE es t0 s T a xs) (hn : s.nt ≤ s'.nt) (ht : ∀ k, rowTok a = some k → s'.tok? k = s.tok? k) : RowE es t0 s' T a xs := by
  rcases h with h | ⟨k, v, t, rfl, h1, h2, h3, h4, h5, h6⟩
  · exact .inl h
  · exact .inr ⟨k, v, t, rfl, h1, by omega, by rw [ht k rfl]; exact h3, h4, h5, h6⟩
theorem app_rowE {es t0 T : Nat} {a y : AV} {xs ys : List AV} (hw : Wf s) (ht0 : t0 ≤ s.nt) (hr : RowE es t0 s T a xs) (hy : elems s es y = some ys) (h1 : 1 ≤ ys.length) (hsz : (xs.length + ys.length) * es < 2 ^ 38) :
    ∃ a' s', appA s es T a y = some (a', s') ∧ RowE es t0 s' T a' (xs ++ ys) ∧ Grew t0 s s' a a' := by
  cases ys with
  | nil => simp at h1
  | cons y0 ys =>
  rcases hr with ⟨rfl, rfl⟩ | ⟨k, v, t, rfl, k1, k2, k3, k4, k5, k6, k7⟩
  · refine ⟨.sl es (y0 :: ys) (.tok s.nt 0), s.newTok (y0 :: ys).length (some T), ?_, ?_, ?_⟩
    · unfold appA
      rw [hy]
      simp only
      rw [if_pos (by simpa using hsz)]
    · exact .inr ⟨s.nt, 0, ⟨(y0 :: ys).length, 0, 0, some T⟩, rfl, ht0, by simp [St.newTok], by rw [newTok_tok?, if_pos rfl], rfl, rfl, rfl, by simp⟩
    · exact { nb := rfl, boxes := rfl, lo := rfl, nt := by simp [St.newTok], over := fun s0 _ _ h => h.withTok _, wf := fun h => h.newTok _ _, toks := fun j hj _ => ⟨by rw [newTok_tok?, if_neg (by omega)], by simp [rowTok]; omega⟩ }
  · refine ⟨.sl es (xs ++ y0 :: ys) (.tok k v), s.setTok k { t with front := xs.length + (y0 :: ys).length }, ?_, ?_, ?_⟩
    · unfold appA
      rw [hy]
      simp only [k3]
      rw [if_pos ⟨trivial, k4, k5, by rw [k6]; simp [tyOk], by simpa using hsz⟩]
    · refine .inr ⟨k, v, { t with front := xs.length + (y0 :: ys).length }, rfl, k1, k2, by rw [setTok_tok? hw.t k2, if_pos rfl], k4, by simp, k6, by simp; omega⟩
    · exact { nb := rfl, boxes := rfl, lo := rfl, nt := Nat.le_refl _, over := fun s0 h0 _ h => h.setTok (by omega) k2 _, wf := fun h => h.setTok _ _, toks := fun j hj hne => ⟨by rw [setTok_tok? hw.t k2, if_neg (fun hh => hne (by simp [rowTok, hh]))], by simpa [rowTok] using hne⟩ }
/-- What is left where a row is told. -/
structure Pubd (t0 : Nat) (s s' : St) : Prop where
  nb : s'.nb = s.nb
  nt : s'.nt = s.nt
  boxes : s'.boxes = s.boxes
  over : ∀ s0 : St, s0.nt ≤ t0 → Over s0 s → Over s0 s'
  wf : Wf s'
  row : ∀ {es T : Nat} {a : AV} {xs : List AV}, RowE es t0 s T a xs → RowE es t0 s' T a xs
theorem Pubd.box {t0 : Nat} {s' : St} (h : Pubd t0 s s') (id : Nat) : s'.box? id = s.box? id := by simp [St.box?, h.nb, h.boxes]
theorem RowE.pubd {es t0 T : Nat} {a : AV} {xs : List AV} (h : RowE es t0 s T a xs) (hw : Wf s) :
    ∃ a' s', pub s a = some (a', s') ∧ ((a' = .nsl ∧ xs = []) ∨ a' = .sl es xs .shut) ∧ Pubd t0 s s' := by
  rcases h with ⟨rfl, rfl⟩ | ⟨k, v, t, rfl, k1, k2, k3, k4, k5, k6, k7⟩
  · exact ⟨.nsl, s, rfl, .inl ⟨rfl, rfl⟩, rfl, rfl, rfl, fun _ _ h => h, hw, fun h => h⟩
  · refine ⟨.sl es xs .shut, s.setTok k { t with pub := max t.pub xs.length }, ?_, .inr rfl, rfl, rfl, rfl, fun s0 h0 h => h.setTok (by omega) k2 _, hw.setTok _ _, fun {es' T' a ys} hr => ?_⟩
    · simp only [pub, k3, k4, if_true]
    · rcases hr with hr | ⟨k', v', t', rfl, h1, h2, h3, h4, h5, h6, h7⟩
      · exact .inl hr
      · by_cases hk : k' = k
        · subst hk
          rw [k3] at h3; cases h3
          exact .inr ⟨k', v', { t with pub := max t.pub xs.length }, rfl, h1, h2, by rw [setTok_tok? hw.t h2, if_pos rfl], h4, h5, h6, h7⟩
        · exact .inr ⟨k', v', t', rfl, h1, h2, by rw [setTok_tok? hw.t k2, if_neg hk]; exact h3, h4, h5, h6, h7⟩
end
end Go.Proofs.YtfaodjpibdhdjaaDoor.Am
