/-
  A heap as it is reckoned with: rows of which nobody else knows, boxes, and what operations do to them.
-/
import Derived.Test.YtbfgoopcnkeblaaGreatAmKeep
import Derived.Test.YtbfgoopcnkeblaaGreatAmDraw3
import Derived.Attr
import Derived.Maps.Own
import Derived.Sort.KeysCollected
set_option linter.all false
set_option linter.unusedVariables false
set_option linter.unusedSimpArgs false
set_option linter.unusedSectionVars false
namespace Go.Proofs.YtbfgoopcnkeblaaGreat.Am
structure RA where
 es : Nat
 T : Nat
 a : AV
 xs : List AV
 fr : Bool
def HW (es : Nat) (a : AV) (xs : List AV) : Prop := (a = .nsl ∧ xs = []) ∨ (a = .wz ∧ xs = []) ∨ a = .sl es xs .full ∨ a = .ws true es xs
def TokA (t0 : Nat) (s : St) (r : RA) : Prop := ∃ k v t, r.a = .sl r.es r.xs (.tok k v) ∧ t0 ≤ k ∧ k < s.nt ∧ s.tok? k = some t ∧ t.ver = v ∧ t.front = r.xs.length ∧ t.ty = some r.T ∧ (r.fr = true → t.pub = 0)
def RowH (t0 : Nat) (s : St) (r : RA) : Prop := HW r.es r.a r.xs ∨ TokA t0 s r
structure En where
 lo : Nat
 nb : Nat
 nt : Nat
def St.en (s : St) : En := ⟨s.nb, s.nb, s.nt⟩
structure Hp (s0 s : St) (n : En) (R : List RA) (B : List (Nat × Box)) : Prop where
 wf : Wf s
 over : Over s0 s
 lo : s.lo ≤ n.lo
 nb : n.nb ≤ s.nb
 nt : n.nt ≤ s.nt
 rows : ∀ {i : Nat} {r : RA}, R[i]? = some r → RowH s0.nt s r
 apart : ∀ {i j : Nat} {r r' : RA} {k : Nat}, i ≠ j → R[i]? = some r → R[j]? = some r' → Ag r.a = some k → Ag r'.a ≠ some k
 box : ∀ {i : Nat} {p : Nat × Box}, B[i]? = some p → s.box? p.1 = some p.2 ∧ s0.nb ≤ p.1 ∧ p.1 < s.nb
 bapart : ∀ {i j : Nat} {p q : Nat × Box}, i ≠ j → B[i]? = some p → B[j]? = some q → p.1 ≠ q.1
section
variable {s0 s s' : St} {n : En} {R : List RA} {B : List (Nat × Box)} {r : RA}
theorem Hd {es : Nat} {a : AV} {xs : List AV} (h : HW es a xs) : Ag a = none := by
 rcases h with ⟨rfl, _⟩ | ⟨rfl, _⟩ | rfl | rfl <;> rfl
theorem Lj {es : Nat} {a : AV} {xs : List AV} (h : HW es a xs) : a.cells = [a] ∧ ones [a] = true := by
 rcases h with ⟨rfl, _⟩ | ⟨rfl, _⟩ | rfl | rfl <;> exact ⟨rfl, rfl⟩
theorem RowH.tok_lt {t0 : Nat} (h : RowH t0 s r) {k : Nat} (hk : Ag r.a = some k) : k < s.nt := by
 rcases h with h | ⟨k', v, t, h, _, h2, _⟩
 · rw [Hd h] at hk; cases hk
 · rw [h] at hk; simp only [Ag, Option.some.injEq] at hk; omega
theorem RowH.cells {t0 : Nat} (h : RowH t0 s r) : r.a.cells = [r.a] ∧ ones [r.a] = true := by
 rcases h with h | ⟨k', v, t, h, _⟩
 · exact Lj h
 · rw [h]; exact ⟨rfl, rfl⟩
theorem RowH.mono {t0 : Nat} (h : RowH t0 s r) (hn : s.nt ≤ s'.nt) (ht : ∀ k, Ag r.a = some k → s'.tok? k = s.tok? k) : RowH t0 s' r := by
 rcases h with h | ⟨k, v, t, h, h1, h2, h3, h4⟩
 · exact .inl h
 · exact .inr ⟨k, v, t, h, h1, by omega, by rw [ht k (by rw [h]; rfl)]; exact h3, h4⟩
theorem HW.nil {es : Nat} : HW es .nsl [] := .inl ⟨rfl, rfl⟩
theorem HW.full {es : Nat} {xs : List AV} : HW es (.sl es xs .full) xs := .inr (.inr (.inl rfl))
theorem HW.ws {es : Nat} {xs : List AV} : HW es (.ws true es xs) xs := .inr (.inr (.inr rfl))
theorem Hp.enter (H : Hp s0 s n R B) : Hp s0 s.enter s.en R B where
 wf := H.wf.enter
 over := H.over.toEnter
 lo := Nat.le_refl _
 nb := Nat.le_refl _
 nt := Nat.le_refl _
 rows := fun h => (H.rows h).mono (Nat.le_refl _) fun _ _ => rfl
 apart := H.apart
 box := H.box
 bapart := H.bapart
theorem Hp.setLo (H : Hp s0 s n R B) {m : Nat} (h1 : m ≤ n.lo) (h2 : s0.nb ≤ m) : Hp s0 { s with lo := m } n R B where
 wf := H.wf.lo m
 over := H.over.setLo h2
 lo := h1
 nb := H.nb
 nt := H.nt
 rows := fun h => (H.rows h).mono (Nat.le_refl _) fun _ _ => rfl
 apart := H.apart
 box := H.box
 bapart := H.bapart
def pick {α : Type} (l : List α) : List Nat → List α
 | [] => []
 | i :: is => match l[i]? with
   | some a => a :: pick l is
   | none => pick l is
theorem D3 {α : Type} (l : List α) : ∀ (is : List Nat) {j : Nat} {a : α}, (pick l is)[j]? = some a → ∃ m i, is[m]? = some i ∧ l[i]? = some a ∧ (pick l (is.take m)).length = j
 | [], j, a, h => by simp [pick] at h
 | i :: is, j, a, h => by
   simp only [pick] at h
   cases hi : l[i]? with
   | none =>
     rw [hi] at h
     obtain ⟨m, i', h1, h2, h3⟩ := D3 l is h
     exact ⟨m + 1, i', by simpa using h1, h2, by simp [pick, hi, h3]⟩
   | some b =>
     rw [hi] at h
     cases j with
     | zero => exact ⟨0, i, rfl, by simp only [List.getElem?_cons_zero, Option.some.injEq] at h; rw [← h]; exact hi, rfl⟩
     | succ j =>
       obtain ⟨m, i', h1, h2, h3⟩ := D3 l is (by simpa using h)
       exact ⟨m + 1, i', by simpa using h1, h2, by simp [pick, hi, h3]⟩
theorem Js {is : List Nat} (h : is.Nodup) {a b x : Nat} (ha : is[a]? = some x) (hb : is[b]? = some x) : a = b := by
 rw [List.getElem?_eq_some_iff] at ha hb
 obtain ⟨ha, ea⟩ := ha
 obtain ⟨hb, eb⟩ := hb
 rcases Nat.lt_trichotomy a b with hh | hh | hh
 · exact absurd (ea.trans eb.symm) ((List.pairwise_iff_getElem.1 h) a b ha hb hh)
 · exact hh
 · exact absurd (eb.trans ea.symm) ((List.pairwise_iff_getElem.1 h) b a hb ha hh)
theorem Hp.sel (H : Hp s0 s n R B) (f g : List Nat) (hf : f.Nodup) (hg : g.Nodup) : Hp s0 s n (pick R f) (pick B g) where
 wf := H.wf
 over := H.over
 lo := H.lo
 nb := H.nb
 nt := H.nt
 rows := fun h => by obtain ⟨_, _, _, h2, _⟩ := D3 R f h; exact H.rows h2
 apart := fun {i j r r' k} hne h1 h2 => by
  obtain ⟨m1, i1, a1, a2, a3⟩ := D3 R f h1
  obtain ⟨m2, i2, b1, b2, b3⟩ := D3 R f h2
  refine H.apart (fun he => hne ?_) a2 b2
  subst he
  have := Js hf a1 b1
  rw [← a3, ← b3, this]
 box := fun h => by obtain ⟨_, _, _, h2, _⟩ := D3 B g h; exact H.box h2
 bapart := fun {i j p q} hne h1 h2 => by
  obtain ⟨m1, i1, a1, a2, a3⟩ := D3 B g h1
  obtain ⟨m2, i2, b1, b2, b3⟩ := D3 B g h2
  refine H.bapart (fun he => hne ?_) a2 b2
  subst he
  have := Js hg a1 b1
  rw [← a3, ← b3, this]
theorem Hp.new (H : Hp s0 s n R B) (X : Box) : Hp s0 (s.new X) n R ((s.nb, X) :: B) where
 wf := H.wf.new X
 over := H.over.new X
 lo := H.lo
 nb := Nat.le_succ_of_le H.nb
 nt := H.nt
 rows := fun h => (H.rows h).mono (Nat.le_refl _) fun _ _ => rfl
 apart := H.apart
 box := fun {i p} h => by
  cases i with
  | zero => 
    simp only [List.getElem?_cons_zero, Option.some.injEq] at h; subst h
    exact ⟨HL s X, H.over.nb, Nat.lt_succ_self _⟩
  | succ i =>
    obtain ⟨h1, h2, h3⟩ := H.box (i := i) (by simpa using h)
    exact ⟨by rw [Ip h3]; exact h1, h2, Nat.lt_succ_of_lt h3⟩
 bapart := fun {i j p q} hne h1 h2 => by
  cases i with
  | zero => cases j with
    | zero => exact absurd rfl hne
    | succ j =>
      have := (H.box (i := j) (by simpa using h2)).2.2
      simp only [List.getElem?_cons_zero, Option.some.injEq] at h1; subst h1
      simp only; omega
  | succ i => cases j with
    | zero =>
      have := (H.box (i := i) (by simpa using h1)).2.2
      simp only [List.getElem?_cons_zero, Option.some.injEq] at h2; subst h2
      simp only; omega
    | succ j => exact H.bapart (i := i) (j := j) (by omega) (by simpa using h1) (by simpa using h2)
theorem CB {α : Type} {l : List α} {i j : Nat} {a b x : α} (hi : l[i]? = some b) (h : (l.set i a)[j]? = some x) : (j = i ∧ x = a) ∨ (j ≠ i ∧ l[j]? = some x) := by
 rw [List.getElem?_set] at h
 by_cases hj : i = j
 · subst hj
   rw [if_pos rfl, if_pos (by rw [List.getElem?_eq_some_iff] at hi; exact hi.1)] at h
   exact .inl ⟨rfl, by simpa using h.symm⟩
 · rw [if_neg hj] at h
   exact .inr ⟨fun hh => hj hh.symm, h⟩
theorem Hp.setBox (H : Hp s0 s n R B) {i id : Nat} {X : Box} (h : B[i]? = some (id, X)) (Y : Box) : Hp s0 (s.setBox id Y) n R (B.set i (id, Y)) where
 wf := H.wf.setBox _ _
 over := Over.setBox H.over (H.box h).2.1 (H.box h).2.2 _
 lo := H.lo
 nb := H.nb
 nt := H.nt
 rows := fun h => (H.rows h).mono (Nat.le_refl _) fun _ _ => rfl
 apart := H.apart
 box := fun {j p} hj => by
  rcases CB h hj with ⟨rfl, rfl⟩ | ⟨hne, hj⟩
  · exact ⟨by rw [setBox_box? H.wf.b (H.box h).2.2, if_pos rfl], (H.box h).2.1, (H.box h).2.2⟩
  · obtain ⟨h1, h2, h3⟩ := H.box hj
    exact ⟨by rw [setBox_box? H.wf.b (H.box h).2.2, if_neg (H.bapart hne hj h)]; exact h1, h2, h3⟩
 bapart := fun {a b p q} hne h1 h2 => by
  rcases CB h h1 with ⟨e1, e2⟩ | ⟨hn1, h3⟩
  · rcases CB h h2 with ⟨e3, e4⟩ | ⟨hn2, h4⟩
    · exact absurd (e1.trans e3.symm) hne
    · rw [e2]
      exact H.bapart (p := (id, X)) (fun he => hn2 he.symm) h h4
  · rcases CB h h2 with ⟨e3, e4⟩ | ⟨hn2, h4⟩
    · rw [e4]
      exact H.bapart (q := (id, X)) hn1 h3 h
    · exact H.bapart hne h3 h4
theorem Hp.esc (H : Hp s0 s n R B) {i id : Nat} {X : Box} (h : B[i]? = some (id, X)) (v : AV) : Hp s0 (Am.esc s id v) n R B ∧ (Am.esc s id v).nb = s.nb ∧ (v.refs = true → (Am.esc s id v).lo ≤ id) := by
 unfold Am.esc
 split
 · rename_i hv
   exact ⟨H.setLo (by have := H.lo; omega) (by have := H.over.lo; have := (H.box h).2.1; simp only at *; omega), rfl, fun _ => by simp only; omega⟩
 · rename_i hv
   exact ⟨H, rfl, fun h => absurd h hv⟩
theorem Hp.cells (H : Hp s0 s n R B) {i id T : Nat} {cs : List AV} (h : B[i]? = some (id, .cells T cs)) : s.cells? id = some cs := by
 have := (H.box h).1
 simp only [St.cells?]
 simp only at this
 rw [this]
theorem Hp.ld (H : Hp s0 s n R B) (i : Nat) {id T off : Nat} {cs : List AV} {v : AV} (h : B[i]? = some (id, .cells T cs)) (hc : cs[off]? = some v) : ldA s false 1 (.p id off) = some v := QC (H.box h).1 hc
theorem Hp.st (H : Hp s0 s n R B) (i : Nat) {id T off : Nat} {cs : List AV} {v : AV} (h : B[i]? = some (id, .cells T cs)) (hoff : off < cs.length) (hv : v.cells = [v] ∧ ones [v] = true) :
    ∃ s', stA s 1 (.p id off) v = some s' ∧ Hp s0 s' n R (B.set i (id, .cells T (cs.set off v))) ∧ s'.nb = s.nb ∧ (v.refs = true → s'.lo ≤ id) := by
 have hb : (B.set i (id, Box.cells T (cs.set off v)))[i]? = some (id, .cells T (cs.set off v)) := by
  rw [List.getElem?_set, if_pos rfl, if_pos (by rw [List.getElem?_eq_some_iff] at h; exact h.1)]
 obtain ⟨h1, h2, h3⟩ := (H.setBox h (.cells T (cs.set off v))).esc hb v
 exact ⟨_, OH (H.box h).1 hv.1 hv.2 hoff, h1, h2, h3⟩
theorem Hp.stw (H : Hp s0 s n R B) (i : Nat) {id T m : Nat} {cs : List AV} {v : AV} (h : B[i]? = some (id, .cells T cs)) (hm : cs.length = m) (hv : v.cells.length = m ∧ ones v.cells = true) :
    ∃ s', stA s m (.p id 0) v = some s' ∧ Hp s0 s' n R (B.set i (id, .cells T v.cells)) ∧ s'.nb = s.nb ∧ (v.refs = true → s'.lo ≤ id) := by
 have hb : (B.set i (id, Box.cells T v.cells))[i]? = some (id, .cells T v.cells) := by
  rw [List.getElem?_set, if_pos rfl, if_pos (by rw [List.getElem?_eq_some_iff] at h; exact h.1)]
 obtain ⟨h1, h2, h3⟩ := (H.setBox h (.cells T v.cells)).esc hb v
 refine ⟨_, ?_, h1, h2, h3⟩
 have hbx := (H.box h).1
 simp only at hbx
 have : Am.over cs 0 v.cells = some v.cells := by
  unfold Am.over
  rw [if_pos (by omega), List.take_zero, List.nil_append, Nat.zero_add, List.drop_of_length_le (by omega), List.append_nil]
 simp only [stA, hbx, hv, and_self, if_true, this]
theorem Hp.adp (H : Hp s0 s n R B) {T m : Nat} {z : List AV} {v : AV} (hz : z.length = m) (hv : v.cells.length = m ∧ ones v.cells = true) :
    ∃ s', stA (s.new (.cells T z)) m (.p s.nb 0) v = some s' ∧ Hp s0 s' n R ((s.nb, .cells T v.cells) :: B) ∧ s'.nb = s.nb + 1 := by
 obtain ⟨s', h1, h2, h3, _⟩ := (H.new (.cells T z)).stw 0 (v := v) rfl hz hv
 exact ⟨s', h1, h2, h3⟩
theorem Hp.newTok (H : Hp s0 s n R B) (es T : Nat) (xs : List AV) : Hp s0 (s.newTok xs.length (some T)) n (⟨es, T, .sl es xs (.tok s.nt 0), xs, true⟩ :: R) B where
 wf := H.wf.newTok _ _
 over := H.over.withTok _
 lo := H.lo
 nb := H.nb
 nt := Nat.le_succ_of_le H.nt
 rows := fun {i r} h => by
  cases i with
  | zero =>
    simp only [List.getElem?_cons_zero, Option.some.injEq] at h; subst h
    exact .inr ⟨s.nt, 0, ⟨xs.length, 0, 0, some T⟩, rfl, H.over.nt, by simp [St.newTok], by rw [newTok_tok?, if_pos rfl], rfl, rfl, rfl, fun _ => rfl⟩
  | succ i =>
    have hr := H.rows (i := i) (r := r) (by simpa using h)
    exact hr.mono (by simp [St.newTok]) fun k hk => by rw [newTok_tok?, if_neg (by have := hr.tok_lt hk; omega)]
 apart := fun {i j r r' k} hne h1 h2 hk hk2 => by
  cases i with
  | zero => cases j with
    | zero => exact hne rfl
    | succ j =>
      have := (H.rows (i := j) (by simpa using h2)).tok_lt hk2
      simp only [List.getElem?_cons_zero, Option.some.injEq] at h1; subst h1
      simp only [Ag, Option.some.injEq] at hk; omega
  | succ i => cases j with
    | zero =>
      have := (H.rows (i := i) (by simpa using h1)).tok_lt hk
      simp only [List.getElem?_cons_zero, Option.some.injEq] at h2; subst h2
      simp only [Ag, Option.some.injEq] at hk2; omega
    | succ j => exact H.apart (i := i) (j := j) (by omega) (by simpa using h1) (by simpa using h2) hk hk2
 box := H.box
 bapart := H.bapart
theorem Hp.setTok (H : Hp s0 s n R B) {i k v : Nat} {t : Tok} (h : R[i]? = some r) (ha : r.a = .sl r.es r.xs (.tok k v)) (ht : s.tok? k = some t) (xs : List AV) (t' : Tok) (v' : Nat) (fr : Bool)
    (h1 : t'.ver = v') (h2 : t'.front = xs.length) (h3 : t'.ty = t.ty) (h4 : fr = true → t'.pub = 0) : Hp s0 (s.setTok k t') n (R.set i ⟨r.es, r.T, .sl r.es xs (.tok k v'), xs, fr⟩) B := by
 have hk : Ag r.a = some k := by rw [ha]; rfl
 have hlt := (H.rows h).tok_lt hk
 have hrow : s0.nt ≤ k ∧ t.ty = some r.T := by
  rcases H.rows h with hh | ⟨k', w, t2, hh, q1, q2, q3, q4, q5, q6, q7⟩
  · rw [Hd hh] at hk; cases hk
  · rw [ha] at hh; cases hh; rw [ht] at q3; cases q3; exact ⟨q1, q6⟩
 exact {
  wf := H.wf.setTok _ _
  over := H.over.setTok hrow.1 hlt _
  lo := H.lo
  nb := H.nb
  nt := H.nt
  rows := fun {j x} hj => by
   rcases CB h hj with ⟨rfl, rfl⟩ | ⟨hne, hj⟩
   · exact .inr ⟨k, v', t', rfl, hrow.1, hlt, by rw [setTok_tok? H.wf.t hlt, if_pos rfl], h1, h2, by rw [h3]; exact hrow.2, h4⟩
   · exact (H.rows hj).mono (Nat.le_refl _) fun m hm => by
      rw [setTok_tok? H.wf.t hlt, if_neg]
      intro he
      exact H.apart hne hj h hm (by rw [he]; exact hk)
  apart := fun {a b x y m} hne g1 g2 gk gk2 => by
   rcases CB h g1 with ⟨e1, e2⟩ | ⟨hn1, g3⟩
   · rcases CB h g2 with ⟨e3, e4⟩ | ⟨hn2, g4⟩
     · exact hne (e1.trans e3.symm)
     · rw [e2] at gk
       simp only [Ag] at gk
       exact H.apart (fun he => hn2 he.symm) h g4 (by rw [hk]; exact gk) gk2
   · rcases CB h g2 with ⟨e3, e4⟩ | ⟨hn2, g4⟩
     · rw [e4] at gk2
       simp only [Ag] at gk2
       exact H.apart hn1 g3 h gk (by rw [hk]; exact gk2)
     · exact H.apart hne g3 g4 gk gk2
  box := H.box
  bapart := H.bapart }
theorem LB {α : Type} {l : List α} {i : Nat} {a : α} (h : l[i]? = some a) : l.set i a = l := by
 apply List.ext_getElem?
 intro j
 rw [List.getElem?_set]
 by_cases hj : i = j
 · subst hj; rw [if_pos rfl, if_pos (by rw [List.getElem?_eq_some_iff] at h; exact h.1), h]
 · rw [if_neg hj]
theorem NO {es T : Nat} {a y : AV} {xs ys : List AV} (h : HW es a xs) (hy : elems s es y = some ys) (h1 : ys ≠ []) (hsz : (xs.length + ys.length) * es < 2 ^ 38) :
    appA s es T a y = some (.sl es (xs ++ ys) (.tok s.nt 0), s.newTok (xs ++ ys).length (some T)) := by
 cases ys with
 | nil => exact absurd rfl h1
 | cons y0 ys =>
 unfold appA
 rw [hy]
 rcases h with ⟨rfl, rfl⟩ | ⟨rfl, rfl⟩ | rfl | rfl
 · simp only [List.length_nil, Nat.zero_add, List.nil_append] at hsz ⊢
   rw [if_pos hsz]
 · simp only [List.length_nil, Nat.zero_add, List.nil_append] at hsz ⊢
   rw [if_pos hsz]
 · simp only [List.length_append]
   rw [if_pos ⟨trivial, hsz⟩]
 · simp only [List.length_append]
   rw [if_pos ⟨trivial, hsz⟩]
theorem NP {es T : Nat} {a y : AV} {t0 : Nat} (h : RowH t0 s r) (ha : r.a = a) (hy : elems s es y = some []) : appA s es T a y = some (a, s) := by
 subst ha
 unfold appA
 rw [hy]
 rcases h with (⟨h, _⟩ | ⟨h, _⟩ | h | h) | ⟨k, v, t, h, _⟩ <;> rw [h]
theorem Hp.app (H : Hp s0 s n R B) (i : Nat) {es T : Nat} {a y : AV} {xs ys : List AV} {fr : Bool} (h : R[i]? = some ⟨es, T, a, xs, fr⟩) (hy : elems s es y = some ys) (hsz : (xs.length + ys.length) * es < 2 ^ 38) :
    ∃ a' s', appA s es T a y = some (a', s') ∧ Hp s0 s' n (R.set i ⟨es, T, a', xs ++ ys, fr⟩) B ∧ s'.nb = s.nb ∧ (ys ≠ [] → Ag a' ≠ none ∧ a'.refs = true) := by
 by_cases hys : ys = []
 · subst hys
   refine ⟨a, s, NP (H.rows h) rfl hy, ?_, rfl, fun h => absurd rfl h⟩
   rw [List.append_nil, LB h]
   exact H
 · rcases H.rows h with hf | ⟨k, v, t, ha, k1, k2, k3, k4, k5, k6, k7⟩
   · refine ⟨_, _, NO hf hy hys hsz, ?_, rfl, fun _ => ⟨by simp [Ag], rfl⟩⟩
     have h0 := H.newTok es T (xs ++ ys)
     refine { wf := h0.wf, over := h0.over, lo := h0.lo, nb := h0.nb, nt := h0.nt, rows := fun {j x} hj => ?_, apart := fun {p q x y m} hne g1 g2 gk => ?_, box := h0.box, bapart := h0.bapart }
     · rcases CB h hj with ⟨rfl, rfl⟩ | ⟨_, hj⟩
       · rcases h0.rows (i := 0) rfl with hh | ⟨k, v, t, q1, q2, q3, q4, q5, q6, q7, q8⟩
         · exact .inl hh
         · exact .inr ⟨k, v, t, q1, q2, q3, q4, q5, q6, q7, fun _ => q8 rfl⟩
       · exact h0.rows (i := j + 1) (by simpa using hj)
     · rcases CB h g1 with ⟨e1, e2⟩ | ⟨hn1, g3⟩
       · rcases CB h g2 with ⟨e3, e4⟩ | ⟨hn2, g4⟩
         · exact absurd (e1.trans e3.symm) hne
         · rw [e2] at gk
           exact h0.apart (i := 0) (j := q + 1) (by omega) rfl (by simpa using g4) gk
       · rcases CB h g2 with ⟨e3, e4⟩ | ⟨hn2, g4⟩
         · rw [e4]
           exact h0.apart (i := p + 1) (j := 0) (r' := ⟨es, T, .sl es (xs ++ ys) (.tok s.nt 0), xs ++ ys, true⟩) (by omega) (by simpa using g3) rfl gk
         · exact H.apart hne g3 g4 gk
   · simp only at ha
     refine ⟨.sl es (xs ++ ys) (.tok k v), s.setTok k { t with front := xs.length + ys.length }, ?_, H.setTok h ha k3 (xs ++ ys) { t with front := xs.length + ys.length } v fr k4 (by simp) rfl k7, rfl, fun _ => ⟨by simp [Ag], rfl⟩⟩
     subst ha
     cases ys with
     | nil => exact absurd rfl hys
     | cons y0 ys =>
     unfold appA
     rw [hy]
     simp only [k3]
     rw [if_pos ⟨trivial, k4, k5, by rw [k6]; simp [tyOk], hsz⟩]
def Cs (es : Nat) (a : AV) (xs : List AV) : Prop := (a = .nsl ∧ xs = []) ∨ (a = .wz ∧ xs = []) ∨ a = .sl es xs .full ∨ a = .sl es xs .shut ∨ a = .ws true es xs ∨ a = .ws false es xs
theorem HW.told {es : Nat} {a : AV} {xs : List AV} (h : HW es a xs) : Cs es a xs := by
 rcases h with h | h | h | h
 · exact .inl h
 · exact .inr (.inl h)
 · exact .inr (.inr (.inl h))
 · exact .inr (.inr (.inr (.inr (.inl h))))
theorem Hp.pub (H : Hp s0 s n R B) (i : Nat) (h : R[i]? = some r) :
    ∃ a' s', Am.pub s r.a = some (a', s') ∧ Cs r.es a' r.xs ∧ Hp s0 s' n (R.set i { r with fr := false }) B ∧ s'.nb = s.nb := by
 rcases H.rows h with hf | ⟨k, v, t, ha, k1, k2, k3, k4, k5, k6, k7⟩
 · refine ⟨r.a, s, ?_, hf.told, ?_, rfl⟩
   · rcases hf with ⟨h, _⟩ | ⟨h, _⟩ | h | h <;> rw [h] <;> rfl
   · refine { wf := H.wf, over := H.over, lo := H.lo, nb := H.nb, nt := H.nt, rows := fun {j x} hj => ?_, apart := fun {p q x y m} hne g1 g2 gk => ?_, box := H.box, bapart := H.bapart }
     · rcases CB h hj with ⟨rfl, rfl⟩ | ⟨_, hj⟩
       · exact .inl hf
       · exact H.rows hj
     · rcases CB h g1 with ⟨e1, e2⟩ | ⟨hn1, g3⟩
       · rw [e2] at gk
         simp only [Hd hf] at gk; cases gk
       · rcases CB h g2 with ⟨e3, e4⟩ | ⟨hn2, g4⟩
         · rw [e4]; simp only [Hd hf]; simp
         · exact H.apart hne g3 g4 gk
 · refine ⟨.sl r.es r.xs .shut, s.setTok k { t with pub := max t.pub r.xs.length }, ?_, .inr (.inr (.inr (.inl rfl))), ?_, rfl⟩
   · rw [ha]; simp only [Am.pub, k3, k4, if_true]
   · have := H.setTok h ha k3 r.xs { t with pub := max t.pub r.xs.length } v false k4 k5 rfl (fun hh => by cases hh)
     rw [← ha] at this
     exact this
theorem Hp.pop (H : Hp s0 s n R B) (i : Nat) {es T m : Nat} {a : AV} {xs : List AV} (h : R[i]? = some ⟨es, T, a, xs, true⟩) (hm : m ≤ xs.length) :
    ∃ a' s', BE s true es a none (some (.i .i64 (m : Int))) none = some (a', s') ∧ ((∃ fr, Hp s0 s' n (R.set i ⟨es, T, a', xs.take m, fr⟩) B ∧ (Ag a ≠ none → fr = true)) ∨ (Ag a = none ∧ Cs es a' (xs.take m) ∧ s' = s)) ∧ s'.nb = s.nb := by
 have hb : BU xs.length none (some (.i .i64 (m : Int))) = some (0, m) := by
  unfold BU
  simp [BR, hm]
 rcases H.rows h with (⟨h1, h2⟩ | ⟨h1, h2⟩ | h1 | h1) | ⟨k, v, t, ha, k1, k2, k3, k4, k5, k6, k7⟩
 · simp only at h1 h2; subst h1; subst h2
   obtain rfl : m = 0 := by simpa using hm
   exact ⟨.nsl, s, rfl, .inr ⟨rfl, .inl ⟨rfl, rfl⟩, rfl⟩, rfl⟩
 · simp only at h1 h2; subst h1; subst h2
   obtain rfl : m = 0 := by simpa using hm
   exact ⟨.wz, s, rfl, .inr ⟨rfl, .inr (.inl ⟨rfl, rfl⟩), rfl⟩, rfl⟩
 · simp only at h1; subst h1
   unfold BE
   simp only [if_true, hb, List.drop_zero, Nat.sub_zero]
   by_cases hx : m = xs.length
   · rw [if_pos ⟨trivial, hx⟩]
     exact ⟨_, _, rfl, .inr ⟨rfl, .inr (.inr (.inl (by rw [hx, List.take_length]))), rfl⟩, rfl⟩
   · rw [if_neg (fun hh => hx hh.2), if_neg hx]
     exact ⟨_, _, rfl, .inr ⟨rfl, .inr (.inr (.inr (.inl rfl))), rfl⟩, rfl⟩
 · simp only at h1; subst h1
   unfold BE
   simp only [if_true, hb, List.drop_zero, Nat.sub_zero]
   by_cases hx : m = xs.length
   · rw [if_pos ⟨trivial, hx⟩]
     exact ⟨_, _, rfl, .inr ⟨rfl, .inr (.inr (.inr (.inr (.inl (by rw [hx, List.take_length]))))), rfl⟩, rfl⟩
   · rw [if_neg (fun hh => hx hh.2)]
     exact ⟨_, _, rfl, .inr ⟨rfl, .inr (.inr (.inr (.inr (.inr rfl)))), rfl⟩, rfl⟩
 · simp only at ha
   have k7 := k7 rfl
   by_cases hx : m = xs.length
   · refine ⟨a, s, ?_, .inl ⟨true, by rw [hx, List.take_length, LB h]; exact H, fun _ => rfl⟩, rfl⟩
     rw [ha]
     unfold BE
     simp only [if_true, hb]
     rw [if_pos ⟨trivial, hx⟩]
   · refine ⟨.sl es (xs.take m) (.tok k (v + 1)), s.setTok k ⟨m, v + 1, t.pub, t.ty⟩, ?_, .inl ⟨true, H.setTok h ha k3 (xs.take m) ⟨m, v + 1, t.pub, t.ty⟩ (v + 1) true rfl (by simp only; rw [List.length_take]; omega) rfl (fun _ => k7), fun _ => rfl⟩, rfl⟩
     rw [ha]
     unfold BE
     have hc : (true && Nat.beq 0 0 && Nat.beq t.front xs.length && Nat.ble t.pub m) = true := by rw [k5, k7]; simp
     simp only [if_true, hb, k3, k4, hc, List.drop_zero, Nat.sub_zero]
     rw [if_neg (fun hh => hx hh.2)]
theorem Hp.leave {s1 : St} {n1 : En} {R1 : List RA} {B1 : List (Nat × Box)} (H : Hp s0 s n R B) (K : Hp s0 s1 ⟨n1.lo, s.nb, s.nt⟩ R1 B1) (v : AV) (hB : ∀ {i : Nat} {p : Nat × Box}, B1[i]? = some p → p.1 < s.nb) (hl : n1.lo < s.nb ∨ ∀ {i : Nat} {r : RA} {k : Nat}, R1[i]? = some r → Ag r.a = some k → k < s.nt) :
    Hp s0 (Am.leave s s1 v) n R1 B1 := by
 have hnb : s.nb ≤ s1.nb := K.nb
 have hnt : s.nt ≤ s1.nt := K.nt
 unfold Am.leave
 split
 · rename_i hc
   simp only [Bool.and_eq_true, Nat.ble_eq] at hc
   have hl : ∀ {i : Nat} {r : RA} {k : Nat}, R1[i]? = some r → Ag r.a = some k → k < s.nt := by
    rcases hl with hl | hl
    · have : s1.lo ≤ n1.lo := K.lo
      omega
    · exact hl
   have h1 := K.over
   have h0 := H.over
   exact {
    wf := ⟨by simp only [List.length_drop]; rw [K.wf.b]; omega, by simp only [List.length_drop]; rw [K.wf.t]; omega⟩
    over := ⟨h0.nb, by
     simp only [List.drop_drop]
     rw [show s1.nb - s.nb + (s.nb - s0.nb) = s1.nb - s0.nb by have := h0.nb; omega]
     exact h1.boxes, h0.nt, by
     simp only [List.drop_drop]
     rw [show s1.nt - s.nt + (s.nt - s0.nt) = s1.nt - s0.nt by have := h0.nt; omega]
     exact h1.toks, h0.lo⟩
    lo := H.lo
    nb := H.nb
    nt := H.nt
    rows := fun {i r} hr => by
     rcases K.rows hr with hh | ⟨k, w, t, ha, k1, k2, k3, k4⟩
     · exact .inl hh
     · have hk := hl hr (by rw [ha]; rfl : Ag r.a = some k)
       exact .inr ⟨k, w, t, ha, k1, hk, by rw [Nj K.wf hnt hk]; exact k3, k4⟩
    apart := K.apart
    box := fun {i p} hp => by
     obtain ⟨h1, h2, h3⟩ := K.box hp
     exact ⟨by rw [Ni K.wf hnb (hB hp)]; exact h1, h2, hB hp⟩
    bapart := K.bapart }
 · refine { wf := K.wf.lo _, over := K.over.setLo ?_, lo := by have := H.lo; simp only; omega, nb := by have := H.nb; simp only; omega, nt := by have := H.nt; simp only; omega, rows := fun hr => (K.rows hr).mono (Nat.le_refl _) fun _ _ => rfl, apart := K.apart, box := K.box, bapart := K.bapart }
   have := H.over.lo
   have := K.over.lo
   omega
theorem Cs.cells {es : Nat} {a : AV} {xs : List AV} (h : Cs es a xs) : a.cells = [a] ∧ ones [a] = true ∧ Ag a = none := by
 rcases h with ⟨rfl, _⟩ | ⟨rfl, _⟩ | rfl | rfl | rfl | rfl <;> exact ⟨rfl, rfl, rfl⟩
theorem Cs.ones {es : Nat} {a : AV} {xs : List AV} (h : Cs es a xs) (l : List AV) : Am.ones (a :: l) = Am.ones l := by
 rcases h with ⟨rfl, _⟩ | ⟨rfl, _⟩ | rfl | rfl | rfl | rfl <;> rfl
theorem RowH.ones {t0 : Nat} (h : RowH t0 s r) (l : List AV) : Am.ones (r.a :: l) = Am.ones l := by
 rcases h with (⟨h, _⟩ | ⟨h, _⟩ | h | h) | ⟨k', v, t, h, _⟩ <;> rw [h] <;> rfl
theorem Cs.pub {es : Nat} {a : AV} {xs : List AV} (h : Cs es a xs) (s : St) : Am.pub s a = some (a, s) := by
 rcases h with ⟨rfl, _⟩ | ⟨rfl, _⟩ | rfl | rfl | rfl | rfl <;> rfl
theorem Cs.frz {es : Nat} {a : AV} {xs : List AV} (h : Cs es a xs) (s : St) : Am.frz s a = some (a, s) := by
 rcases h with ⟨rfl, _⟩ | ⟨rfl, _⟩ | rfl | rfl | rfl | rfl <;> rfl
theorem Cs.pubA {es : Nat} {a : AV} {xs : List AV} (h : Cs es a xs) (s : St) : Am.pubA s a = some (a, s) := by
 rcases h with ⟨rfl, _⟩ | ⟨rfl, _⟩ | rfl | rfl | rfl | rfl <;> rfl
theorem Cs.elems {es : Nat} {a : AV} {xs : List AV} (h : Cs es a xs) (s : St) : Am.elems s es a = some xs := by
 rcases h with ⟨rfl, rfl⟩ | ⟨rfl, rfl⟩ | rfl | rfl | rfl | rfl <;> simp [Am.elems, St.ok]
theorem Cs.noTok {es : Nat} {a : AV} {xs : List AV} (h : Cs es a xs) : noTok a = true := by
 rcases h with ⟨rfl, rfl⟩ | ⟨rfl, rfl⟩ | rfl | rfl | rfl | rfl <;> rfl
theorem Cs.refs {es : Nat} {a : AV} {xs : List AV} (h : Cs es a xs) (hx : AV.refs.go xs = false) : a.refs = false := by
 rcases h with ⟨rfl, rfl⟩ | ⟨rfl, rfl⟩ | rfl | rfl | rfl | rfl <;> first | rfl | exact hx
theorem Cs.len {es : Nat} {a : AV} {xs : List AV} (h : Cs es a xs) (s : St) : lenA s 1 a = some (.i .i64 (xs.length : Nat)) := by
 rcases h with ⟨rfl, rfl⟩ | ⟨rfl, rfl⟩ | rfl | rfl | rfl | rfl <;> rfl
theorem Cs.ws {f : Bool} {es : Nat} {xs : List AV} : Cs es (.ws f es xs) xs := by
 cases f
 · exact .inr (.inr (.inr (.inr (.inr rfl))))
 · exact .inr (.inr (.inr (.inr (.inl rfl))))
theorem Cs.wk {es : Nat} {a : AV} {xs : List AV} (h : Cs es a xs) {c : CT} (hc : wkM c xs = xs) : wk (.sl es c) a = .ws false es xs := by
 have hb : Nat.beq es es = true := by simp
 rcases h with ⟨rfl, rfl⟩ | ⟨rfl, rfl⟩ | rfl | rfl | rfl | rfl <;> simp [Am.wk, hc]
def Sm (lo : Nat) (e e' : Tr) : Prop := ∀ t, t < lo → e'.get t = e.get t
theorem Sm.refl (lo : Nat) (e : Tr) : Sm lo e e := fun _ _ => rfl
theorem Sm.put {lo : Nat} {e e' : Tr} (h : Sm lo e e') {d : Nat} {v : AV} (h1 : lo ≤ d) (h2 : d < 1000) : Sm lo e (e'.set 10 d v) := fun t ht => by
 rw [KA e' d v t h2, if_neg (by omega), h t ht]
theorem Sm.get {lo : Nat} {e e' : Tr} (h : Sm lo e e') {t : Nat} (ht : t < lo) : e'.get t = e.get t := h t ht
end
end Go.Proofs.YtbfgoopcnkeblaaGreat.Am

/-
  Regions that draw, reckoned without their trace of settings: only the states ahead of each operation are kept, for the loads that may stand elsewhere.
-/
namespace Go.Proofs.YtbfgoopcnkeblaaGreat.Am
section
variable {σ : Self} {e : Tr} {s : St} {Q : Ex → Tr → St → Prop}
def WE (σ : Self) (l : List Op) (e : Tr) (s : St) (tr : List St) (Q : List St → Tr → St → Prop) : Prop := match BL σ l e s with
 | some r => match HU r with
   | some (e', s') => Q (tr ++ r.map (·.2)) e' s'
   | none => False
 | none => False
def KE (σ : Self) (d : Option Nat) (l : List Op) (e : Tr) (tr : List St) (Q : List St → Tr → St → Prop) : AV → St → Prop := fun v s => WE σ l (put e d v) s tr Q
def sameS (self : Self) (e : Tr) (op : AOp) (v : AV) : Option St → Bool
 | some s => CA e s op && (match evOp self e s op with
   | some (v', _) => beqA v v'
   | none => false)
 | none => false
def chkS (self : Self) (ops : List Op) (tr : List St) (e : Tr) : List (Nat × Nat × Nat) → Bool
 | [] => true
 | (i, lo, hi) :: l => (match ops[i]?, tr[i]? with
   | some o, some s => !B9 e o.guard || (match evOp self e s o.op with
     | some (v, _) => (List.range' lo (hi + 1 - lo)).all fun k => sameS self e o.op v tr[k]?
     | none => false)
   | _, _ => false) && chkS self ops tr e l
theorem WE_nil {Q : List St → Tr → St → Prop} (tr : List St) : WE σ [] e s tr Q ↔ Q (tr ++ [s]) e s := Iff.rfl
theorem PX {Q : List St → Tr → St → Prop} (o : Op) (l : List Op) (tr : List St) :
    WE σ (o :: l) e s tr Q ↔ (match evD1 σ o e s with | some (e1, s1) => WE σ l e1 s1 (tr ++ [s]) Q | none => False) := by
 unfold WE
 simp only [BL]
 cases h : evD1 σ o e s with
 | none => exact Iff.rfl
 | some r =>
   obtain ⟨e1, s1⟩ := r
   simp only
   cases ht : BL σ l e1 s1 with
   | none => exact Iff.rfl
   | some r =>
     simp only [It (KI ht), List.append_assoc, List.cons_append, List.nil_append, List.map_cons]
theorem M3 {Q : List St → Tr → St → Prop} (d : Option Nat) (op : AOp) (l : List Op) (tr : List St) :
    WE σ (⟨d, op, none⟩ :: l) e s tr Q ↔ (Nat.beq op.cls 2 || CA e s op) = true ∧ WS (evOp σ e s op) (KE σ d l e (tr ++ [s]) Q) := by
 rw [PX]
 unfold WS KE
 simp only [evD1, B9, if_true]
 by_cases hq : (Nat.beq op.cls 2 || CA e s op) = true
 · rw [if_pos hq]
   simp only [hq, true_and]
   cases evOp σ e s op <;> exact Iff.rfl
 · rw [if_neg hq]
   simp [hq]
theorem KE_ap (d : Option Nat) (l : List Op) (e0 : Tr) (tr : List St) (Q : List St → Tr → St → Prop) (v : AV) : KE σ d l e0 tr Q v s ↔ WE σ l (put e0 d v) s tr Q := Iff.rfl
@[congr] theorem WE_congr {l : List Op} {e e' : Tr} {s s' : St} {tr tr' : List St} {Q : List St → Tr → St → Prop} (h1 : e = e') (h2 : s = s') (h3 : tr = tr') : WE σ l e s tr Q = WE σ l e' s' tr' Q := by rw [h1, h2, h3]
@[congr] theorem KE_congr {d : Option Nat} {l : List Op} {e0 e0' : Tr} {tr tr' : List St} {Q : List St → Tr → St → Prop} {v v' : AV} {s s' : St} (h0 : e0 = e0') (h1 : v = v') (h2 : s = s') (h3 : tr = tr') : KE σ d l e0 tr Q v s = KE σ d l e0' tr' Q v' s' := by rw [h0, h1, h2, h3]
def KW (σ : Self) (ops : List Op) (wins : List (Nat × Nat × Nat)) (Q : Ex → Tr → St → Prop) : List St → Tr → St → Prop := fun tr e s => chkS σ ops tr e wins = true ∧ Q .n e s
@[congr] theorem KW_congr {ops : List Op} {w : List (Nat × Nat × Nat)} {tr tr' : List St} {e e' : Tr} {s s' : St} (h1 : tr = tr') (h2 : e = e') (h3 : s = s') : KW σ ops w Q tr e s = KW σ ops w Q tr' e' s' := by rw [h1, h2, h3]
def still : AV → Bool
 | .agg l => l.all noTok && (match pubL noSt l with | some (l', _) => Ew l l' | none => false) && Ew l l
 | v => beqA v v
def WQ (σ : Self) (l : List Op) (e : Tr) (s : St) (Q : Tr → St → Prop) : Prop := match BL σ l e s with
 | some r => match HU r with
   | some (e', s') => Q e' s'
   | none => False
 | none => False
def KQ (σ : Self) (d : Option Nat) (l : List Op) (e : Tr) (Q : Tr → St → Prop) : AV → St → Prop := fun v s => WQ σ l (put e d v) s Q
theorem WQ_nil {Q : Tr → St → Prop} : WQ σ [] e s Q ↔ Q e s := Iff.rfl
theorem PY {Q : Tr → St → Prop} (d : Option Nat) (op : AOp) (l : List Op) :
    WQ σ (⟨d, op, none⟩ :: l) e s Q ↔ (Nat.beq op.cls 2 || CA e s op) = true ∧ WS (evOp σ e s op) (KQ σ d l e Q) := M3 (Q := fun _ => Q) d op l []
theorem KQ_ap (d : Option Nat) (l : List Op) (e0 : Tr) (Q : Tr → St → Prop) (v : AV) : KQ σ d l e0 Q v s ↔ WQ σ l (put e0 d v) s Q := Iff.rfl
@[congr] theorem WQ_congr {l : List Op} {e e' : Tr} {s s' : St} {Q : Tr → St → Prop} (h1 : e = e') (h2 : s = s') : WQ σ l e s Q = WQ σ l e' s' Q := by rw [h1, h2]
@[congr] theorem KQ_congr {d : Option Nat} {l : List Op} {e0 e0' : Tr} {Q : Tr → St → Prop} {v v' : AV} {s s' : St} (h0 : e0 = e0') (h1 : v = v') (h2 : s = s') : KQ σ d l e0 Q v s = KQ σ d l e0' Q v' s' := by rw [h0, h1, h2]
theorem W_regQ (l : List Op) : W σ (.regD l []) e s Q ↔ WQ σ l e s (KN Q) := by
 rw [RF]
 unfold WD WQ KC KN
 cases BL σ l e s with
 | none => exact Iff.rfl
 | some r =>
   simp only
   cases HU r with
   | none => exact Iff.rfl
   | some x => simp [chkD]
end
end Go.Proofs.YtbfgoopcnkeblaaGreat.Am

/-
  The set of laws for reckoning forwards.
-/
namespace Go.Proofs.YtbfgoopcnkeblaaGreat.Am
theorem QD (l : List AV) : (AV.agg l).cells = l := rfl
theorem cl_s (l : List Nat) : (AV.s l).cells = [.s l] := rfl
theorem cl_i (k : IntKind) (n : Int) : (AV.i k n).cells = [.i k n] := rfl
theorem cl_b (b : Bool) : (AV.b b).cells = [.b b] := rfl
theorem cl_p (i o : Nat) : (AV.p i o).cells = [.p i o] := rfl
theorem cl_np : AV.np.cells = [.np] := rfl
theorem QE : AV.nsl.cells = [.nsl] := rfl
theorem cl_ws (f : Bool) (e : Nat) (l : List AV) : (AV.ws f e l).cells = [.ws f e l] := rfl
theorem cl_sl (e : Nat) (l : List AV) (m : Cap) : (AV.sl e l m).cells = [.sl e l m] := rfl
theorem cl_fn (f : Nat) (l : List AV) : (AV.fn f l).cells = [.fn f l] := rfl
theorem ln0 : ([] : List AV).length = 0 := rfl
theorem ln1 (a : AV) : [a].length = 1 := rfl
theorem ln2 (a b : AV) : [a, b].length = 2 := rfl
theorem ln3 (a b c : AV) : [a, b, c].length = 3 := rfl
theorem ln4 (a b c d : AV) : [a, b, c, d].length = 4 := rfl
theorem ln5 (a b c d e : AV) : [a, b, c, d, e].length = 5 := rfl
theorem ln6 (a b c d e f : AV) : [a, b, c, d, e, f].length = 6 := rfl
theorem ov2_0 (a b x : AV) : over [a, b] 0 [x] = some [x, b] := rfl
theorem ov2_1 (a b x : AV) : over [a, b] 1 [x] = some [a, x] := rfl
theorem ov3_0 (a b c x : AV) : over [a, b, c] 0 [x] = some [x, b, c] := rfl
theorem ov3_1 (a b c x : AV) : over [a, b, c] 1 [x] = some [a, x, c] := rfl
theorem ov3_2 (a b c x : AV) : over [a, b, c] 2 [x] = some [a, b, x] := rfl
theorem ov4_0 (a b c d x : AV) : over [a, b, c, d] 0 [x] = some [x, b, c, d] := rfl
theorem ov4_1 (a b c d x : AV) : over [a, b, c, d] 1 [x] = some [a, x, c, d] := rfl
theorem ov4_2 (a b c d x : AV) : over [a, b, c, d] 2 [x] = some [a, b, x, d] := rfl
theorem ov4_3 (a b c d x : AV) : over [a, b, c, d] 3 [x] = some [a, b, c, x] := rfl
theorem nt_i (k : IntKind) (n : Int) : noTok (.i k n) = true := rfl
theorem nt_s (l : List Nat) : noTok (.s l) = true := rfl
theorem nt_b (b : Bool) : noTok (.b b) = true := rfl
theorem nt_p (a b : Nat) : noTok (.p a b) = true := rfl
theorem nt_np : noTok .np = true := rfl
theorem QF : noTok .nsl = true := rfl
theorem nt_wz : noTok .wz = true := rfl
theorem nt_ws (f : Bool) (n : Nat) (l : List AV) : noTok (.ws f n l) = true := rfl
theorem Ov (n : Nat) (l : List AV) : noTok (.sl n l .full) = true := rfl
theorem Ow (n : Nat) (l : List AV) : noTok (.sl n l .shut) = true := rfl
theorem QG (l : List AV) : noTok (.agg l) = true := rfl
theorem nt_fn (f : Nat) (l : List AV) : noTok (.fn f l) = true := rfl
theorem nt_bl (a b c d : Nat) (x : Nat × Bool) : noTok (.bl a b c d x) = true := rfl
theorem nt_nf : noTok .nf = true := rfl
theorem nt_ni : noTok .ni = true := rfl
theorem nt_nm : noTok .nm = true := rfl
theorem nt_m (i : Nat) : noTok (.m i) = true := rfl
theorem QH (t : Nat) (v : AV) : noTok (.ifc t v) = true := rfl
theorem Ox (s : St) : pub s .wz = some (.wz, s) := rfl
theorem Oy (s : St) : pub s .nf = some (.nf, s) := rfl
theorem Oz (s : St) : pub s .ni = some (.ni, s) := rfl
theorem O0 (s : St) : pub s .nm = some (.nm, s) := rfl
theorem QI (s : St) (i : Nat) : pub s (.m i) = some (.m i, s) := rfl
theorem Nn (s : St) (t : Nat) (v : AV) : pub s (.ifc t v) = some (.ifc t v, s) := rfl
theorem No (s : St) (l : List AV) : pub s (.tup l) = some (.tup l, s) := rfl
theorem Hp.still {s0 s : St} {n : En} {R : List RA} {B : List (Nat × Box)} (H : Hp s0 s n R B) (i : Nat) {es T : Nat} {a : AV} {xs : List AV} {fr : Bool} (h : R[i]? = some ⟨es, T, a, xs, fr⟩) (hx : Ew xs xs = true) : still a = true := by
 rcases H.rows h with (⟨h, _⟩ | ⟨h, _⟩ | h | h) | ⟨k', v, t, h, _⟩ <;> simp only at h <;> subst h <;> simp [Am.still, beqA, hx]
def ldR (s : St) : Option AV → Option (AV × St)
 | some (.agg l) => match pubL s l with
   | some (l, s) => some (.agg l, s)
   | none => none
 | some v => some (v, s)
 | none => none
def ldQ : Option AV → Bool
 | some (.agg l) => l.all noTok
 | _ => true
theorem O2 (σ : Self) (e : Tr) (s : St) (g : Bool) (n : Nat) (x : X) : evOp σ e s (.ld g n x) = ldR s (ldA s g n (x.ev e)) := rfl
theorem Np (e : Tr) (s : St) (g : Bool) (n : Nat) (x : X) : CA e s (.ld g n x) = ldQ (ldA s g n (x.ev e)) := rfl
theorem O3 (s : St) (l : List AV) : ldR s (some (.agg l)) = (match pubL s l with
    | some (l, s) => some (.agg l, s)
    | none => none) := rfl
theorem O4 (l : List AV) : ldQ (some (.agg l)) = l.all noTok := rfl
theorem ldR_i (s : St) (k : IntKind) (n : Int) : ldR s (some (.i k n)) = some (.i k n, s) := rfl
theorem ldR_s (s : St) (l : List Nat) : ldR s (some (.s l)) = some (.s l, s) := rfl
theorem ldR_b (s : St) (b : Bool) : ldR s (some (.b b)) = some (.b b, s) := rfl
theorem ldR_p (s : St) (i o : Nat) : ldR s (some (.p i o)) = some (.p i o, s) := rfl
theorem QJ (s : St) : ldR s (some .np) = some (.np, s) := rfl
theorem O5 (s : St) : ldR s (some .nsl) = some (.nsl, s) := rfl
theorem QK (s : St) (f : Bool) (e : Nat) (l : List AV) : ldR s (some (.ws f e l)) = some (.ws f e l, s) := rfl
theorem QL (s : St) (e : Nat) (l : List AV) (m : Cap) : ldR s (some (.sl e l m)) = some (.sl e l m, s) := rfl
theorem QM (s : St) (a b c d : Nat) (x : Nat × Bool) : ldR s (some (.bl a b c d x)) = some (.bl a b c d x, s) := rfl
theorem QN (s : St) (f : Nat) (l : List AV) : ldR s (some (.fn f l)) = some (.fn f l, s) := rfl
theorem O6 (s : St) (f : Nat) : ldR s (some (.yld f)) = some (.yld f, s) := rfl
theorem ldR_m (s : St) (i : Nat) : ldR s (some (.m i)) = some (.m i, s) := rfl
theorem QO (s : St) : ldR s (some .nm) = some (.nm, s) := rfl
theorem QP (s : St) : ldR s (some .ni) = some (.ni, s) := rfl
theorem QQ (s : St) : ldR s (some .nf) = some (.nf, s) := rfl
theorem O7 (s : St) (t : Nat) (v : AV) : ldR s (some (.ifc t v)) = some (.ifc t v, s) := rfl
theorem ldQ_i (k : IntKind) (n : Int) : ldQ (some (.i k n)) = true := rfl
theorem ldQ_s (l : List Nat) : ldQ (some (.s l)) = true := rfl
theorem ldQ_b (b : Bool) : ldQ (some (.b b)) = true := rfl
theorem ldQ_p (i o : Nat) : ldQ (some (.p i o)) = true := rfl
theorem QR : ldQ (some .np) = true := rfl
theorem O8 : ldQ (some .nsl) = true := rfl
theorem QS (f : Bool) (e : Nat) (l : List AV) : ldQ (some (.ws f e l)) = true := rfl
theorem QT (e : Nat) (l : List AV) (m : Cap) : ldQ (some (.sl e l m)) = true := rfl
theorem QU (a b c d : Nat) (x : Nat × Bool) : ldQ (some (.bl a b c d x)) = true := rfl
theorem QV (f : Nat) (l : List AV) : ldQ (some (.fn f l)) = true := rfl
theorem O9 (f : Nat) : ldQ (some (.yld f)) = true := rfl
theorem ldQ_m (i : Nat) : ldQ (some (.m i)) = true := rfl
theorem QW : ldQ (some .nm) = true := rfl
theorem QX : ldQ (some .ni) = true := rfl
theorem QY : ldQ (some .nf) = true := rfl
theorem PA (t : Nat) (v : AV) : ldQ (some (.ifc t v)) = true := rfl
theorem Nq : ldQ none = true := rfl
theorem RowH.ld {t0 : Nat} {s : St} {r : RA} (h : RowH t0 s r) : (∀ q, ldR q (some r.a) = some (r.a, q)) ∧ ldQ (some r.a) = true := by
 rcases h with (⟨h, _⟩ | ⟨h, _⟩ | h | h) | ⟨k', v, t, h, _⟩ <;> rw [h] <;> exact ⟨fun _ => rfl, rfl⟩
theorem Cs.ld {es : Nat} {a : AV} {xs : List AV} (h : Cs es a xs) : (∀ q, ldR q (some a) = some (a, q)) ∧ ldQ (some a) = true := by
 rcases h with ⟨rfl, _⟩ | ⟨rfl, _⟩ | rfl | rfl | rfl | rfl <;> exact ⟨fun _ => rfl, rfl⟩
theorem Nr (s : St) : ([] : List St) ++ [s] = [s] := rfl
theorem Ms (a : St) (l : List St) (s : St) : (a :: l) ++ [s] = a :: (l ++ [s]) := rfl
theorem QZ (s : St) (k : IntKind) (n : Int) : pubA s (.i k n) = some (.i k n, s) := rfl
theorem frz_i (s : St) (k : IntKind) (n : Int) : frz s (.i k n) = some (.i k n, s) := rfl
theorem Qa (s : St) (l : List Nat) : pubA s (.s l) = some (.s l, s) := rfl
theorem frz_s (s : St) (l : List Nat) : frz s (.s l) = some (.s l, s) := rfl
theorem Qb (s : St) (b : Bool) : pubA s (.b b) = some (.b b, s) := rfl
theorem frz_b (s : St) (b : Bool) : frz s (.b b) = some (.b b, s) := rfl
theorem Qc (s : St) (i o : Nat) : pubA s (.p i o) = some (.p i o, s) := rfl
theorem frz_p (s : St) (i o : Nat) : frz s (.p i o) = some (.p i o, s) := rfl
theorem PB (s : St)  : pubA s (.np) = some (.np, s) := rfl
theorem Qd (s : St)  : frz s (.np) = some (.np, s) := rfl
theorem Ns (s : St)  : pubA s (.nsl) = some (.nsl, s) := rfl
theorem PC (s : St)  : frz s (.nsl) = some (.nsl, s) := rfl
theorem PD (s : St)  : pubA s (.wz) = some (.wz, s) := rfl
theorem Qe (s : St)  : frz s (.wz) = some (.wz, s) := rfl
theorem PE (s : St) (f : Bool) (e : Nat) (l : List AV) : pubA s (.ws f e l) = some (.ws f e l, s) := rfl
theorem Qf (s : St) (f : Bool) (e : Nat) (l : List AV) : frz s (.ws f e l) = some (.ws f e l, s) := rfl
theorem Mt (s : St) (e : Nat) (l : List AV) : pubA s (.sl e l .full) = some (.sl e l .full, s) := rfl
theorem Nt (s : St) (e : Nat) (l : List AV) : frz s (.sl e l .full) = some (.sl e l .full, s) := rfl
theorem Mu (s : St) (e : Nat) (l : List AV) : pubA s (.sl e l .shut) = some (.sl e l .shut, s) := rfl
theorem Nu (s : St) (e : Nat) (l : List AV) : frz s (.sl e l .shut) = some (.sl e l .shut, s) := rfl
theorem PF (s : St) (f : Nat) (l : List AV) : pubA s (.fn f l) = some (.fn f l, s) := rfl
theorem Qg (s : St) (f : Nat) (l : List AV) : frz s (.fn f l) = some (.fn f l, s) := rfl
theorem Nv (s : St) (t : Nat) (v : AV) : pubA s (.ifc t v) = some (.ifc t v, s) := rfl
theorem PG (s : St) (t : Nat) (v : AV) : frz s (.ifc t v) = some (.ifc t v, s) := rfl
theorem PH (s : St)  : pubA s (.ni) = some (.ni, s) := rfl
theorem Qh (s : St)  : frz s (.ni) = some (.ni, s) := rfl
theorem PI (s : St)  : pubA s (.nf) = some (.nf, s) := rfl
theorem Qi (s : St)  : frz s (.nf) = some (.nf, s) := rfl
theorem PJ (s : St)  : pubA s (.nm) = some (.nm, s) := rfl
theorem Qj (s : St)  : frz s (.nm) = some (.nm, s) := rfl
theorem Qk (s : St) (i : Nat) : pubA s (.m i) = some (.m i, s) := rfl
theorem frz_m (s : St) (i : Nat) : frz s (.m i) = some (.m i, s) := rfl
theorem PK (s : St) (l : List AV) : frz s (.agg l) = some (.agg l, s) := rfl
theorem Nw (s : St) (l : List AV) : pubA s (.agg l) = (match frzL s l with
    | some (l, s) => some (.agg l, s)
    | none => none) := rfl
theorem wv_u0 : JU undef false = .b false := rfl
theorem wv_u1 : JU undef true = .b false := rfl
def CC (v : AV) (σ : Self) (a b : C) (e : Tr) (s : St) (Q : Ex → Tr → St → Prop) : Prop := CP v (W σ a e s Q) (W σ b e s Q)
@[congr] theorem CC_congr {v v' : AV} {σ : Self} {a b : C} {e : Tr} {s : St} {Q : Ex → Tr → St → Prop} (h : v = v') : CC v σ a b e s Q = CC v' σ a b e s Q := by rw [h]
theorem CC_t (σ : Self) (a b : C) (e : Tr) (s : St) (Q : Ex → Tr → St → Prop) : CC (.b true) σ a b e s Q ↔ W σ a e s Q := Iff.rfl
theorem CC_f (σ : Self) (a b : C) (e : Tr) (s : St) (Q : Ex → Tr → St → Prop) : CC (.b false) σ a b e s Q ↔ W σ b e s Q := Iff.rfl
def CG (v : AV) (w : Bool) (σ : Self) (d : Option Nat) (op : AOp) (l : List Op) (e : Tr) (s : St) (R : Tr → St → Prop) : Prop := CP (JU v w) (WS (evOp σ e s op) (KO σ d l e R)) (WO σ l (put e d undef) s R)
@[congr] theorem CG_congr {v v' : AV} {w : Bool} {σ : Self} {d : Option Nat} {op : AOp} {l : List Op} {e : Tr} {s : St} {R : Tr → St → Prop} (h : v = v') : CG v w σ d op l e s R = CG v' w σ d op l e s R := by rw [h]
section
variable (σ : Self) (d : Option Nat) (op : AOp) (l : List Op) (e : Tr) (s : St)
theorem CG_tt (R : Tr → St → Prop) : CG (.b true) true σ d op l e s R ↔ WS (evOp σ e s op) (KO σ d l e R) := Iff.rfl
theorem CG_ff (R : Tr → St → Prop) : CG (.b false) false σ d op l e s R ↔ WS (evOp σ e s op) (KO σ d l e R) := Iff.rfl
theorem CG_tf (R : Tr → St → Prop) : CG (.b true) false σ d op l e s R ↔ WO σ l (put e d undef) s R := Iff.rfl
theorem CG_ft (R : Tr → St → Prop) : CG (.b false) true σ d op l e s R ↔ WO σ l (put e d undef) s R := Iff.rfl
theorem CG_u (w : Bool) (R : Tr → St → Prop) : CG undef w σ d op l e s R ↔ WO σ l (put e d undef) s R := Iff.rfl
end
def CQ (v : AV) (w : Bool) (σ : Self) (d : Option Nat) (op : AOp) (l : List Op) (e : Tr) (s : St) (Q : Tr → St → Prop) : Prop := CP (JU v w) ((Nat.beq op.cls 2 || CA e s op) = true ∧ WS (evOp σ e s op) (KQ σ d l e Q)) (WQ σ l (put e d undef) s Q)
@[congr] theorem CQ_congr {v v' : AV} {w : Bool} {σ : Self} {d : Option Nat} {op : AOp} {l : List Op} {e : Tr} {s : St} {R : Tr → St → Prop} (h : v = v') : CQ v w σ d op l e s R = CQ v' w σ d op l e s R := by rw [h]
def CE (v : AV) (w : Bool) (σ : Self) (d : Option Nat) (op : AOp) (l : List Op) (e : Tr) (s : St) (tr : List St) (Q : List St → Tr → St → Prop) : Prop := CP (JU v w) ((Nat.beq op.cls 2 || CA e s op) = true ∧ WS (evOp σ e s op) (KE σ d l e (tr ++ [s]) Q)) (WE σ l (put e d undef) s (tr ++ [s]) Q)
@[congr] theorem CE_congr {v v' : AV} {w : Bool} {σ : Self} {d : Option Nat} {op : AOp} {l : List Op} {e : Tr} {s : St} {tr : List St} {R : List St → Tr → St → Prop} (h : v = v') : CE v w σ d op l e s tr R = CE v' w σ d op l e s tr R := by rw [h]
section
variable (σ : Self) (d : Option Nat) (op : AOp) (l : List Op) (e : Tr) (s : St) (tr : List St)
theorem CQ_tt (R : Tr → St → Prop) : CQ (.b true) true σ d op l e s R ↔ (Nat.beq op.cls 2 || CA e s op) = true ∧ WS (evOp σ e s op) (KQ σ d l e R) := Iff.rfl
theorem CQ_ff (R : Tr → St → Prop) : CQ (.b false) false σ d op l e s R ↔ (Nat.beq op.cls 2 || CA e s op) = true ∧ WS (evOp σ e s op) (KQ σ d l e R) := Iff.rfl
theorem CQ_tf (R : Tr → St → Prop) : CQ (.b true) false σ d op l e s R ↔ WQ σ l (put e d undef) s R := Iff.rfl
theorem CQ_ft (R : Tr → St → Prop) : CQ (.b false) true σ d op l e s R ↔ WQ σ l (put e d undef) s R := Iff.rfl
theorem CQ_u (w : Bool) (R : Tr → St → Prop) : CQ undef w σ d op l e s R ↔ WQ σ l (put e d undef) s R := Iff.rfl
theorem CE_tt (R : List St → Tr → St → Prop) : CE (.b true) true σ d op l e s tr R ↔ (Nat.beq op.cls 2 || CA e s op) = true ∧ WS (evOp σ e s op) (KE σ d l e (tr ++ [s]) R) := Iff.rfl
theorem CE_ff (R : List St → Tr → St → Prop) : CE (.b false) false σ d op l e s tr R ↔ (Nat.beq op.cls 2 || CA e s op) = true ∧ WS (evOp σ e s op) (KE σ d l e (tr ++ [s]) R) := Iff.rfl
theorem CE_tf (R : List St → Tr → St → Prop) : CE (.b true) false σ d op l e s tr R ↔ WE σ l (put e d undef) s (tr ++ [s]) R := Iff.rfl
theorem CE_ft (R : List St → Tr → St → Prop) : CE (.b false) true σ d op l e s tr R ↔ WE σ l (put e d undef) s (tr ++ [s]) R := Iff.rfl
theorem CE_u (w : Bool) (R : List St → Tr → St → Prop) : CE undef w σ d op l e s tr R ↔ WE σ l (put e d undef) s (tr ++ [s]) R := Iff.rfl
end
theorem lnA_s (s : St) (l : List Nat) : lenA s 0 (.s l) = some (.i .i64 (Int.ofNat l.length)) := rfl
theorem PL (s : St) : lenA s 1 .nsl = some (.i .i64 0) := rfl
theorem Ql (s : St) : lenA s 1 .wz = some (.i .i64 0) := rfl
theorem Qm (s : St) (e : Nat) (l : List AV) (m : Cap) : lenA s 1 (.sl e l m) = some (.i .i64 (Int.ofNat l.length)) := rfl
theorem Qn (s : St) (f : Bool) (e : Nat) (l : List AV) : lenA s 1 (.ws f e l) = some (.i .i64 (Int.ofNat l.length)) := rfl
theorem Qo (s : St) (a b c n : Nat) (x : Nat × Bool) : lenA s 1 (.bl a b c n x) = some (.i .i64 (Int.ofNat n)) := rfl
theorem Qp (s : St) : lenA s 2 .nm = some (.i .i64 0) := rfl
theorem ov5_0 (a0 a1 a2 a3 a4 x : AV) : over [a0, a1, a2, a3, a4] 0 [x] = some [x, a1, a2, a3, a4] := rfl
theorem ov5_1 (a0 a1 a2 a3 a4 x : AV) : over [a0, a1, a2, a3, a4] 1 [x] = some [a0, x, a2, a3, a4] := rfl
theorem ov5_2 (a0 a1 a2 a3 a4 x : AV) : over [a0, a1, a2, a3, a4] 2 [x] = some [a0, a1, x, a3, a4] := rfl
theorem ov5_3 (a0 a1 a2 a3 a4 x : AV) : over [a0, a1, a2, a3, a4] 3 [x] = some [a0, a1, a2, x, a4] := rfl
theorem ov5_4 (a0 a1 a2 a3 a4 x : AV) : over [a0, a1, a2, a3, a4] 4 [x] = some [a0, a1, a2, a3, x] := rfl
theorem ov6_0 (a0 a1 a2 a3 a4 a5 x : AV) : over [a0, a1, a2, a3, a4, a5] 0 [x] = some [x, a1, a2, a3, a4, a5] := rfl
theorem ov6_1 (a0 a1 a2 a3 a4 a5 x : AV) : over [a0, a1, a2, a3, a4, a5] 1 [x] = some [a0, x, a2, a3, a4, a5] := rfl
theorem ov6_2 (a0 a1 a2 a3 a4 a5 x : AV) : over [a0, a1, a2, a3, a4, a5] 2 [x] = some [a0, a1, x, a3, a4, a5] := rfl
theorem ov6_3 (a0 a1 a2 a3 a4 a5 x : AV) : over [a0, a1, a2, a3, a4, a5] 3 [x] = some [a0, a1, a2, x, a4, a5] := rfl
theorem ov6_4 (a0 a1 a2 a3 a4 a5 x : AV) : over [a0, a1, a2, a3, a4, a5] 4 [x] = some [a0, a1, a2, a3, x, a5] := rfl
theorem ov6_5 (a0 a1 a2 a3 a4 a5 x : AV) : over [a0, a1, a2, a3, a4, a5] 5 [x] = some [a0, a1, a2, a3, a4, x] := rfl
theorem ov7_0 (a0 a1 a2 a3 a4 a5 a6 x : AV) : over [a0, a1, a2, a3, a4, a5, a6] 0 [x] = some [x, a1, a2, a3, a4, a5, a6] := rfl
theorem ov7_1 (a0 a1 a2 a3 a4 a5 a6 x : AV) : over [a0, a1, a2, a3, a4, a5, a6] 1 [x] = some [a0, x, a2, a3, a4, a5, a6] := rfl
theorem ov7_2 (a0 a1 a2 a3 a4 a5 a6 x : AV) : over [a0, a1, a2, a3, a4, a5, a6] 2 [x] = some [a0, a1, x, a3, a4, a5, a6] := rfl
theorem ov7_3 (a0 a1 a2 a3 a4 a5 a6 x : AV) : over [a0, a1, a2, a3, a4, a5, a6] 3 [x] = some [a0, a1, a2, x, a4, a5, a6] := rfl
theorem ov7_4 (a0 a1 a2 a3 a4 a5 a6 x : AV) : over [a0, a1, a2, a3, a4, a5, a6] 4 [x] = some [a0, a1, a2, a3, x, a5, a6] := rfl
theorem ov7_5 (a0 a1 a2 a3 a4 a5 a6 x : AV) : over [a0, a1, a2, a3, a4, a5, a6] 5 [x] = some [a0, a1, a2, a3, a4, x, a6] := rfl
theorem ov7_6 (a0 a1 a2 a3 a4 a5 a6 x : AV) : over [a0, a1, a2, a3, a4, a5, a6] 6 [x] = some [a0, a1, a2, a3, a4, a5, x] := rfl
theorem Qq (t : Nat) (v : AV) : (AV.ifc t v).cells = [.ifc t v] := rfl
theorem cl_wz : AV.wz.cells = [.wz] := rfl
theorem cl_ni : AV.ni.cells = [.ni] := rfl
theorem cl_nf : AV.nf.cells = [.nf] := rfl
theorem cl_nm : AV.nm.cells = [.nm] := rfl
theorem cl_m (i : Nat) : (AV.m i).cells = [.m i] := rfl
theorem Qr (t : Nat) (v : AV) : eqI (.ifc t v) .ni = some false := rfl
theorem Qs : eqI .ni .ni = some true := rfl
theorem PM (n : Nat) : Int.ofNat n = (n : Int) := rfl
attribute [go_sem] W_seq W_reg W_blk Q9 RC W_ret RD PP PW bq_tt bq_ft bq_tf bq_ff Bool.not_true Bool.not_false RG PV M2 PQ PS KS_n KS_x KS_r KB_r KN_ap KO_ap KD_ap RE KF_n KF_r KG_n KG_r KL_n KL_x KL_r PU N2 evX X.ev optX Nx Ny N4 sel_t sel_f if_true if_false Qu Qv Qw Qx Qy Qz Q0 Q1 Q2 Q3 Q4 Q5 Am.unOp ret1 pubL GA wkZ wk B9 FA DP AOp.cls Nat.beq_eq Bool.or_eq_true decide_true decide_false beq_self_eq_true Bool.true_or Bool.or_true true_and and_true eqv eqB eqP scal HL List.getElem?_cons_zero List.getElem?_cons_succ Q6 Q7 Kk updM esc_i esc_s esc_b Qt PN Bool.xor_true Bool.xor_false Bool.false_eq_true List.all_cons List.all_nil Bool.and_self Bool.and_true Bool.true_and Nk P8 P9 QA QB Om Nl On Mm Mn Oo or_true false_or CC_t CC_f CG_tt CG_ff CG_tf CG_ft CG_u CQ_tt CQ_ff CQ_tf CQ_ft CQ_u CE_tt CE_ff CE_tf CE_ft CE_u wv_u0 wv_u1 Nw PK frzL QZ Qa Qb Qc PB Ns PD PE Mt Mu PF Nv PH PI PJ Qk frz_i frz_s frz_b frz_p Qd PC Qe Qf Nt Nu Qg PG Qh Qi Qj frz_m Nr Ms O2 Np Nq O3 ldR_i ldR_s ldR_b ldR_p QJ O5 QK QL QM QN O6 ldR_m QO QP QQ O7 O4 ldQ_i ldQ_s ldQ_b ldQ_p QR O8 QS QT QU QV O9 ldQ_m QW QX QY PA evOp.eq_1 evOp.eq_2 evOp.eq_3 evOp.eq_4 evOp.eq_5 evOp.eq_6 evOp.eq_7 evOp.eq_9 evOp.eq_10 evOp.eq_11 evOp.eq_12 evOp.eq_13 evOp.eq_14 evOp.eq_15 evOp.eq_16 evOp.eq_17 evOp.eq_18 evOp.eq_19 evOp.eq_20 evOp.eq_21 evOp.eq_22 evOp.eq_23 evOp.eq_24 evOp.eq_25 evOp.eq_26 evOp.eq_27 evOp.eq_28 evOp.eq_29 evOp.eq_30 evOp.eq_31 evOp.eq_32 evOp.eq_33 evOp.eq_34 evOp.eq_35 evOp.eq_36 evOp.eq_37 evOp.eq_38 evOp.eq_39 evOp.eq_40 evOp.eq_41 evOp.eq_42 evOp.eq_43 evOp.eq_44 evOp.eq_45 evOp.eq_46 evOp.eq_47 evOp.eq_48 evOp.eq_49 evOp.eq_50 evOp.eq_51 evOp.eq_52 evOp.eq_53 evOp.eq_54 evOp.eq_55 evOp.eq_56 evOp.eq_57 evOp.eq_58 evOp.eq_59 evOp.eq_60 CA.eq_2 CA.eq_3 CA.eq_4 CA.eq_5 CA.eq_6 CA.eq_7 nt_i nt_s nt_b nt_p nt_np QF nt_wz nt_ws Ov Ow QG nt_fn nt_bl nt_nf nt_ni nt_nm nt_m QH Oh Ox Oy Oz O0 QI Nn No WE_nil M3 KE_ap WQ_nil PY KQ_ap W_regQ ov2_0 ov2_1 ov3_0 ov3_1 ov3_2 ov4_0 ov4_1 ov4_2 ov4_3 B8 QD cl_s cl_i cl_b cl_p cl_np QE cl_ws cl_sl cl_fn ln0 ln1 ln2 ln3 ln4 ln5 ln6 lnA_s PL Ql Qm Qn Qo Qp ov5_0 ov5_1 ov5_2 ov5_3 ov5_4 ov6_0 ov6_1 ov6_2 ov6_3 ov6_4 ov6_5 ov7_0 ov7_1 ov7_2 ov7_3 ov7_4 ov7_5 ov7_6 Qq cl_wz cl_ni cl_nf cl_nm cl_m Qr Qs W_thw PM KK_n KK_r
end Go.Proofs.YtbfgoopcnkeblaaGreat.Am

/-
  slices.Sorted(maps.Keys(m)) of a map's texts, as a function that is told by a contract.
-/
namespace Go.Proofs.YtbfgoopcnkeblaaGreat.Am
open Go.Sort Go.Proofs Go.Maps
variable {P : Program} {gt : Nat → Option (List AV)} {CR : Nat → Code → C → Prop} {g : G} {s : St} {w w' : World}
theorem ML (hI : Inv CR g s w) (hgr : Grown w w') {blk cap T es : Nat} {arr : Array Value} {xs : List AV} {vs : List Value} (hb : w.heap.size ≤ blk) (hc : w'.heap[blk]? = some (.cells arr T (0, 0))) (he : 1 ≤ es) (ha : AK es xs = true)
    (hV : VL g s w xs vs) (hn : xs.length ≤ cap) (harr : arr.toList.take (xs.length * es) = flat vs) : Good CR g s w s (.sl es xs .shut) (.slice (some ⟨blk, 0, none⟩) xs.length cap) w' := by
 have hlt : blk < w'.heap.size := (Array.getElem?_eq_some_iff.1 hc).1
 have hL := Le.grown hI hgr
 have hI' := hI.grown hgr
 let g' : G := { g with prot := fun b => if b = blk then xs.length * es else g.prot b }
 have hp0 : g.prot blk = 0 := hI.fresh blk hb
 have hpr : ∀ b, g.prot b ≤ g'.prot b := fun b => by
  show g.prot b ≤ if b = blk then xs.length * es else g.prot b
  split
  · rename_i h; rw [h, hp0]; omega
  · exact Nat.le_refl _
 have hold : ∀ b, b < w.heap.size → g'.prot b = g.prot b := fun b hb' => if_neg (by omega)
 have hLe : Le g s w g' s w' := {
  base := rfl
  size := hL.size
  low := hL.low
  prot := hpr
  cell := hL.cell
  dfr := hL.dfr
  nb := Nat.le_refl _
  bx := fun _ _ => rfl
  nt := Nat.le_refl _
  has := hL.has
  ok := hL.ok
  tok := fun k t t' hk h1 h2 h3 => by
   obtain ⟨k1, k2⟩ := hL.tok k t t' hk h1 h2 h3
   refine ⟨k1, k2.imp (fun h => h) fun ⟨h, h4⟩ => ⟨?_, h4⟩⟩
   rcases h with h | h
   · exact .inl h
   · exact .inr (Nat.le_trans h (hpr _))
  io := hL.io
  own := fun b _ ho => ho
  frame := fun b hb' hn' => ⟨(hL.frame b hb' hn').1, hold b hb'⟩ }
 have hL0 : Le0 g s w' g' s w' := {
  base := rfl
  size := Nat.le_refl _
  low := fun _ _ => rfl
  prot := hpr
  cell := fun _ _ _ _ h => h
  dfr := fun _ h => h
  nb := Nat.le_refl _
  bx := fun _ _ => rfl
  nt := Nat.le_refl _
  has := (Le.refl g s w').has
  ok := (Le.refl g s w').ok
  tok := fun k t t' hk h1 h2 h3 => by
   obtain ⟨k1, k2⟩ := (Le.refl g s w').tok k t t' hk h1 h2 h3
   refine ⟨k1, k2.imp (fun h => h) fun ⟨h, h4⟩ => ⟨?_, h4⟩⟩
   rcases h with h | h
   · exact .inl h
   · exact .inr (Nat.le_trans h (hpr _))
  io := ⟨rfl, rfl⟩ }
 refine ⟨g', ?_, hLe, ?_, Esc.refl _⟩
 · exact {
    lenB := hI'.lenB
    lenT := hI'.lenT
    base := hI'.base
    fresh := fun b hb' => by
     show (if b = blk then xs.length * es else g.prot b) = 0
     rw [if_neg (by omega)]; exact hI'.fresh b hb'
    lt := hI'.lt
    pr := fun id B h1 h2 => by rw [hold _ (hI.lt id (box?_lt h1)).2]; exact hI.pr id B h1 h2
    box := fun id B h => (hI'.box id B h).mono0 hL0 rfl
    inj := hI'.inj
    tlt := hI'.tlt
    tall := hI'.tall
    tok := fun k t h => by
     have hk := hI'.tok k t h
     exact { base := hk.base, es := hk.es, prot := by rw [hold _ (hI.tlt k t h)]; exact hk.prot, pub := hk.pub, cap := hk.cap, row := hk.row }
    tinj := hI'.tinj
    btk := hI'.btk }
 · simp only [V]
   refine ⟨_, _, _, vs, rfl, ⟨he, hn⟩, ha, trivial, fun _ => ⟨AX hLe _ _ hV, fun j v hj => ?_, ?_, hn⟩⟩
   · simp only [World.cell?, hc, Nat.zero_add]
     rw [← harr] at hj
     rw [List.getElem?_take] at hj
     split at hj
     · simpa using hj
     · cases hj
   · right
     show 0 + xs.length * es ≤ if blk = blk then xs.length * es else g.prot blk
     rw [if_pos rfl]; omega
def leN : List Nat → List Nat → Bool
 | [], _ => true
 | _ :: _, [] => false
 | a :: l, b :: m => Nat.blt a b || (Nat.beq a b && leN l m)
def insN (x : List Nat) : List (List Nat) → List (List Nat)
 | [] => [x]
 | y :: r => cond (leN x y) (x :: y :: r) (y :: insN x r)
def sortF : List (List Nat) → List (List Nat)
 | [] => []
 | x :: r => insN x (sortF r)
theorem Hf {a b : Nat} {l m : List Nat} : leN (a :: l) (b :: m) = true ↔ a < b ∨ a = b ∧ leN l m = true := by
 simp only [leN, Bool.or_eq_true, Bool.and_eq_true, Nat.blt_eq, Nat.beq_eq]
theorem Jt : ∀ a b : List Nat, leN a b = true ∨ leN b a = true
 | [], _ => .inl rfl
 | _ :: _, [] => .inr rfl
 | a :: l, b :: m => by
   rw [Hf, Hf]
   rcases Jt l m with h | h <;> rcases Nat.lt_trichotomy a b with k | k | k <;> simp [h, k] <;> omega
theorem Ju : ∀ {a b c : List Nat}, leN a b = true → leN b c = true → leN a c = true
 | [], _, _, _, _ => rfl
 | _ :: _, [], _, h, _ => by cases h
 | _ :: _, _ :: _, [], _, h => by cases h
 | a :: l, b :: m, c :: n, h, k => by
   rw [Hf] at *
   rcases h with h | ⟨h, h2⟩ <;> rcases k with k | ⟨k, k2⟩
   · exact .inl (by omega)
   · exact .inl (by omega)
   · exact .inl (by omega)
   · exact .inr ⟨by omega, Ju h2 k2⟩
theorem MM : ∀ {a b : List Nat}, (∀ n ∈ a, n < 256) → (∀ n ∈ b, n < 256) → (leN a b = true ↔ u8s a ≤ u8s b)
 | [], b, _, _ => by simp [leN, u8s]
 | a :: l, [], _, _ => by simp [leN, u8s]
 | a :: l, b :: m, ha, hb => by
   have ha0 := ha a (by simp); have hb0 := hb b (by simp)
   have ih := MM (a := l) (b := m) (fun n hn => ha n (by simp [hn])) (fun n hn => hb n (by simp [hn]))
   have e1 : u8s (a :: l) = UInt8.ofNat a :: u8s l := by simp [u8s]
   have e2 : u8s (b :: m) = UInt8.ofNat b :: u8s m := by simp [u8s]
   have h1 : UInt8.ofNat a < UInt8.ofNat b ↔ a < b := by
    rw [UInt8.lt_iff_toNat_lt, UInt8.toNat_ofNat_of_lt' ha0, UInt8.toNat_ofNat_of_lt' hb0]
   have h2 : UInt8.ofNat a = UInt8.ofNat b ↔ a = b := by
    rw [← UInt8.toNat_inj, UInt8.toNat_ofNat_of_lt' ha0, UInt8.toNat_ofNat_of_lt' hb0]
   rw [Hf, e1, e2, List.cons_le_cons_iff, h1, h2, ih]
theorem Hs (x : List Nat) : ∀ r, (insN x r).Perm (x :: r)
 | [] => .refl _
 | y :: r => by
   unfold insN
   cases leN x y with
   | true => exact .refl _
   | false => exact ((Hs x r).cons y).trans (.swap x y r)
theorem Gr : ∀ L, (sortF L).Perm L
 | [] => .refl _
 | x :: r => (Hs x _).trans ((Gr r).cons x)
theorem Ht (x : List Nat) : ∀ {r}, r.Pairwise (fun a b => leN a b = true) → (insN x r).Pairwise fun a b => leN a b = true
 | [], _ => by simp [insN]
 | y :: r, h => by
   unfold insN
   rw [List.pairwise_cons] at h
   cases hx : leN x y with
   | true =>
     simp only [cond_true]
     rw [List.pairwise_cons]
     refine ⟨fun z hz => ?_, List.pairwise_cons.2 h⟩
     rcases List.mem_cons.1 hz with rfl | hz
     · exact hx
     · exact Ju hx (h.1 z hz)
   | false =>
     simp only [cond_false]
     rw [List.pairwise_cons]
     refine ⟨fun z hz => ?_, Ht x h.2⟩
     rcases List.mem_cons.1 ((Hs x r).mem_iff.1 hz) with rfl | hz
     · rcases Jt z y with k | k
       · rw [k] at hx; cases hx
       · exact k
     · exact h.1 z hz
theorem HI : ∀ L, (sortF L).Pairwise fun a b => leN a b = true
 | [] => .nil
 | x :: r => Ht x (HI r)
theorem NQ {L : List (List Nat)} (h : ∀ l ∈ L, ∀ n ∈ l, n < 256) : sortF L = sortN L := by
 have hF : ∀ l ∈ sortF L, ∀ n ∈ l, n < 256 := fun l hl => h l ((Gr L).mem_iff.1 hl)
 have h1 : ((sortF L).map u8s).Pairwise fun x y => decide (x ≤ y) = true := by
  rw [List.pairwise_map]
  exact (HI L).imp_of_mem fun ha hb hab => by
   rw [decide_eq_true_eq]; exact (MM (hF _ ha) (hF _ hb)).1 hab
 have h2 : ((sortF L).map u8s).mergeSort (fun x y => decide (x ≤ y)) = (L.map u8s).mergeSort fun x y => decide (x ≤ y) := mergeSort_of_perm ((Gr L).map _)
 rw [List.mergeSort_of_pairwise h1] at h2
 unfold sortN
 rw [← h2, List.map_map]
 have : ∀ K : List (List Nat), (∀ l ∈ K, ∀ n ∈ l, n < 256) → K.map (n8s ∘ u8s) = K := fun K hK => by
  induction K with
  | nil => rfl
  | cons a K ih =>
    rw [List.map_cons, ih fun l hl => hK l (by simp [hl])]
    congr 1
    have ha := hK a (by simp)
    clear ih hK
    simp only [Function.comp, n8s, u8s, List.map_map]
    induction a with
    | nil => rfl
    | cons b a ih2 =>
      rw [List.map_cons, ih2 fun n hn => ha n (by simp [hn])]
      simp only [Function.comp]
      rw [UInt8.toNat_ofNat_of_lt' (ha b (by simp))]
 exact (this _ hF).symm
def Ll : List (AV × AV) → Option (List (List Nat))
 | [] => some []
 | (.s l, _) :: r => match Ll r with
   | some L => some (l :: L)
   | none => none
 | _ => none
def Hg (kf : Nat) : List AV → St → Option (AV × St)
 | [.fn f [.p b 0]], s => if f = kf then match s.box? b with
   | some (.cells _ [.m id]) => match s.box? id with
     | some (.map es) => match Ll es with
       | some L => if L.length ≤ 2 ^ 40 ∧ (L.all fun l => decide (l.length ≤ 2 ^ 47 - 4096)) = true then some (if L.isEmpty then .nsl else .sl 1 ((sortF L).map .s) .shut, s) else none
       | none => none
     | _ => none
   | some (.cells _ [.nm]) => some (.nsl, s)
   | _ => none
   else none
 | _, _ => none
theorem LD : ∀ {es : List (AV × AV)} {L : List (List Nat)} {ents : List MapEntry}, Ll es = some L → VM g s w es ents → ents.map (·.key) = L.map (fun l => .string (AE l)) ∧ ∀ l ∈ L, ∀ n ∈ l, n < 256
 | [], L, ents, h, hM => by
   simp only [Ll] at h; cases h
   simp only [VM] at hM; subst hM
   exact ⟨rfl, by simp⟩
 | (a, v) :: r, L, ents, h, hM => by
   simp only [VM] at hM
   obtain ⟨e, rest, rfl, h1, h2, h3⟩ := hM
   cases a <;> simp only [Ll] at h <;> try (cases h; done)
   rename_i l
   cases hr : Ll r with
   | none => rw [hr] at h; cases h
   | some L' =>
     rw [hr] at h; cases h
     obtain ⟨k1, k2⟩ := LD hr h3
     simp only [V] at h1
     refine ⟨by simp [h1.1, k1], fun l' hl' => ?_⟩
     rcases List.mem_cons.1 hl' with rfl | hl'
     · exact h1.2
     · exact k2 l' hl'
abbrev anyR : Value → Option (DataW Unit × List MemPlace) := fun _ => some (.nil, [])
theorem OA {kt : TypeId} (hk : P.underlying kt = some .string) {x : MapEntry} {b : ByteArray} (hx : x.key = .string b) (hb : b.size ≤ maxLen) : WideElems.rd P kt anyR x = some (.string b.data.toList, .nil) := by
 unfold WideElems.rd
 have : keyOf P kt x.key = some (.string b.data.toList) := by
  unfold keyOf
  rw [hk, hx]
  simp [mapKey, hk, hb]
 rw [this]; rfl
theorem Kp {f kf kt T : Nat} (hb : ∃ F b, P.funcs[f]? = some F ∧ F.body = some b) (hk : P.underlying kt = some .string)
    (h0 : ∀ (Bm : Nat) (w : World), Bm < w.heap.size → w.cell? ⟨Bm, 0, none⟩ = some (.map none) → Calls P f #[.func (.func kf) #[] #[.pointer (some ⟨Bm, 0, none⟩)]] w fun e w' => e = .returned (.slice none 0 0) ∧ RowKit.Below w.heap.size w w')
    (h1 : ∀ (Bm b nn : Nat) (D0 : DataW Unit) (w : World), Bm < w.heap.size → w.cell? ⟨Bm, 0, none⟩ = some (.map (some b)) → w.ownsMap P kt anyR b nn D0 → Maps.size D0 ≤ maxLen → Maps.size D0 * 16 ≤ 140737488355328 →
     Calls P f #[.func (.func kf) #[] #[.pointer (some ⟨Bm, 0, none⟩)]] w fun e w' => ∃ (v : Value) (ss : List (List UInt8)), e = .returned v ∧ ss.Perm (strKeys D0) ∧
      w'.ownsRow w.heap.size T 1 v ss.length ((ss.mergeSort (fun x y => decide (x ≤ y))).map encStr) ∧ (v = .slice none 0 0 ↔ ss = []) ∧ RowKit.Below w.heap.size w w') : LV P gt f (Hg kf) := by
 refine ⟨hb, fun args s r s' hp g w vs hI hG hv => ?_⟩
 unfold Hg at hp
 split at hp <;> try (cases hp; done)
 rename_i f' b
 split at hp <;> try (cases hp; done)
 rename_i hff
 subst hff
 simp only [VL, V] at hv
 obtain ⟨u, _, rfl, ⟨us, ⟨u2, _, rfl, ⟨hbl, rfl⟩, rfl⟩, rfl⟩, rfl⟩ := hv
 split at hp <;> try (cases hp; done)
 · rename_i TT id hbx
   obtain ⟨arr, q1, q2⟩ := hI.box b _ hbx
   simp only [VL, V] at q2
   obtain ⟨u3, _, q3, ⟨hid, rfl⟩, rfl⟩ := q2
   split at hp <;> try (cases hp; done)
   rename_i es hmx
   split at hp <;> try (cases hp; done)
   rename_i L hL
   split at hp <;> try (cases hp; done)
   rename_i hlim
   cases hp
   obtain ⟨ents, clock, m1, m2, m3⟩ := hI.box id _ hmx
   obtain ⟨k1, k2⟩ := LD hL m2
   rw [NQ k2]
   have hcell : w.cell? ⟨g.bx b, 0, none⟩ = some (.map (some (g.bx id))) := by
    simp only [World.cell?, q1]
    have : arr[0]? = some (.map (some (g.bx id))) := by
     rw [← Array.getElem?_toList, q3]; rfl
    simpa using this
   have hlen : ents.size = L.length := by
    have := congrArg List.length k1
    simpa using this
   have hkey : ∀ x ∈ ents.toList, ∃ l ∈ L, x.key = .string (AE l) := fun x hx => by
    have : x.key ∈ ents.toList.map (·.key) := List.mem_map.2 ⟨x, hx, rfl⟩
    rw [k1] at this
    obtain ⟨l, hl, he⟩ := List.mem_map.1 this
    exact ⟨l, hl, he.symm⟩
   have hsz : ∀ l ∈ L, (AE l).size ≤ maxLen := fun l hl => by
    have := List.all_eq_true.1 hlim.2 l hl
    simp only [decide_eq_true_eq] at this
    have h2 : (AE l).size = l.length := by simp [AE, ByteArray.size]
    rw [h2]; simp only [maxLen]; omega
   have hrg : ents.toList.map (WideElems.rg P kt anyR) = ents.toList.map fun x => ((match x.key with | .string b => Lit.string b.data.toList | _ => .bool false), DataW.nil) := by
    refine List.map_congr_left fun x hx => ?_
    obtain ⟨l, hl, he⟩ := hkey x hx
    unfold WideElems.rg
    rw [OA hk he (hsz l hl), he]; rfl
   have hown : w.ownsMap P kt anyR (g.bx id) ents.size (.map ((ents.toList.map (WideElems.rg P kt anyR)).foldr DataW.insert [])) := ⟨ents, clock, m1, ⟨by rw [hlen]; simp only [maxLen]; omega, m3, fun x hx => by
    obtain ⟨l, hl, he⟩ := hkey x hx
    exact ⟨_, OA hk he (hsz l hl)⟩⟩, Nat.le_refl _, rfl⟩
   have hsize : Maps.size (H := Unit) (.map ((ents.toList.map (WideElems.rg P kt anyR)).foldr DataW.insert [])) = L.length := by
    simp only [Maps.size]
    rw [length_sorted, List.length_map, Array.length_toList, hlen]
   have hkeys : (strKeys (H := Unit) (.map ((ents.toList.map (WideElems.rg P kt anyR)).foldr DataW.insert []))).Perm (L.map u8s) := by
    simp only [strKeys]
    refine ((WideShapes.sorted_perm _).map _).trans ?_
    rw [hrg, List.map_map]
    have : (ents.toList.map ((fun p : Lit × DataW Unit => Go.strOf p.1) ∘ fun x => ((match x.key with | .string b => Lit.string b.data.toList | _ => .bool false), DataW.nil))) = (ents.toList.map (·.key)).map fun v => match v with | .string b => b.data.toList | _ => [] := by
     rw [List.map_map]
     refine List.map_congr_left fun x hx => ?_
     obtain ⟨l, hl, he⟩ := hkey x hx
     simp [he, Go.strOf]
    rw [this, k1, List.map_map]
    exact List.Perm.refl _
   refine (h1 (g.bx b) (g.bx id) ents.size _ w (hI.lt b hbl).2 hcell hown (by rw [hsize]; simp only [maxLen]; omega) (by rw [hsize]; omega)).mono ?_
   rintro e w' ⟨v, ss, rfl, hss, hrow, hnil, hbel⟩
   have hgr : Grown w w' := ⟨hbel.os, hbel.output, hbel.size, fun k hk => hbel.block k hk⟩
   have hp2 := hss.trans hkeys
   have hms : ss.mergeSort (fun x y => decide (x ≤ y)) = (sortN L).map u8s := by
    rw [Mw]
    exact mergeSort_of_perm hp2
   have hsl : ss.length = L.length := by rw [hp2.length_eq, List.length_map]
   refine ⟨v, rfl, ?_⟩
   by_cases hLe : L = []
   · subst hLe
     have : ss = [] := List.length_eq_zero_iff.1 hsl
     rw [hnil.2 this]
     exact ⟨g, hI.grown hgr, Le.grown hI hgr, by simp [V], Esc.refl _⟩
   · have hemp : L.isEmpty = false := by cases L with | nil => exact absurd rfl hLe | cons a L => rfl
     rw [hemp]
     simp only [Bool.false_eq_true, if_false]
     have hne : ss ≠ [] := fun h => hLe (List.length_eq_zero_iff.1 (by rw [← hsl, h]; rfl))
     obtain ⟨o1, o2 | ⟨gb, cap, cur, rfl, o3, o4, o5, o6, o7, o8⟩⟩ := hrow
     · exact absurd (hnil.1 o2.1) hne
     · have hxl : ((sortN L).map AV.s).length = ss.length := by rw [List.length_map, Mx, hsl]
       have hlt2 : ∀ x ∈ sortN L, ∀ n ∈ x, n < 256 := Nz
       have hvs := Mv hlt2 g s w
       have hfl : flat ((sortN L).map fun l => Value.string (AE l)) = (sortN L).map fun l => Value.string (AE l) := by
        generalize sortN L = K
        induction K with
        | nil => rfl
        | cons a K ih => simp only [flat, List.map_cons, List.flatMap_cons] at ih ⊢; rw [ih]; rfl
       have hG2 := ML (es := 1) (xs := (sortN L).map .s) hI hgr o3 o4 (by omega) (by
        generalize sortN L = K
        induction K with
        | nil => rfl
        | cons a K ih => simp only [List.map_cons, AK, ih]; rfl) hvs (by rw [hxl]; exact o5) (by
        rw [hxl, o8, hms, hfl, List.map_map]
        exact List.map_congr_left fun l _ => rfl)
       rw [hxl] at hG2
       exact hG2
 · rename_i TT hbx
   cases hp
   obtain ⟨arr, q1, q2⟩ := hI.box b _ hbx
   simp only [VL, V] at q2
   obtain ⟨u3, _, q3, rfl, rfl⟩ := q2
   have hcell : w.cell? ⟨g.bx b, 0, none⟩ = some (.map none) := by
    simp only [World.cell?, q1]
    have : arr[0]? = some (.map none) := by
     rw [← Array.getElem?_toList, q3]; rfl
    simpa using this
   refine (h0 (g.bx b) w (hI.lt b hbl).2 hcell).mono ?_
   rintro e w' ⟨rfl, hbel⟩
   have hgr : Grown w w' := ⟨hbel.os, hbel.output, hbel.size, fun k hk => hbel.block k hk⟩
   exact ⟨_, rfl, g, hI.grown hgr, Le.grown hI hgr, by simp [V], Esc.refl _⟩
end Go.Proofs.YtbfgoopcnkeblaaGreat.Am

/-
  The machine with a table of calls that are known: a long run is cut into short ones.
-/
namespace Go.Proofs.YtbfgoopcnkeblaaGreat.Am
structure Ent where
 args : List AV
 s : St
 r : AV
 s' : St
def MR : List Ent → List AV → St → Option (AV × St)
 | [], _, _ => none
 | x :: l, a, s => cond (Lh x.s s && Ew x.args a) (some (x.r, x.s')) (MR l a s)
def MS : List (Nat × List Ent) → Nat → List AV → St → Option (AV × St)
 | [], _, _, _ => none
 | (g, l) :: t, f, a, s => cond (Nat.beq g f) (MR l a s) (MS t f a s)
def runM (tb : List (Nat × List Ent)) (prog : Nat → Option Fun) : Nat → Self
 | 0 => dead
 | n + 1 => {
    call := fun f a s => match MS tb f a s with
     | some r => some r
     | none => HV prog (runM tb prog n) f a s
    code := evC (runM tb prog n) }
section
variable {prog : Nat → Option Fun}
def Ent.ok (prog : Nat → Option Fun) (f : Nat) (x : Ent) : Prop := (lim prog).call f x.args x.s = some (x.r, x.s')
def Oi (prog : Nat → Option Fun) (f : Nat) : List Ent → Prop
 | [] => True
 | x :: l => x.ok prog f ∧ Oi prog f l
def NX (prog : Nat → Option Fun) : List (Nat × List Ent) → Prop
 | [] => True
 | (f, l) :: t => Oi prog f l ∧ NX prog t
theorem LG {f : Nat} {r : AV × St} : ∀ {l : List Ent} {a : List AV} {s : St}, Oi prog f l → MR l a s = some r → (lim prog).call f a s = some r
 | [], _, _, _, h => by simp [MR] at h
 | x :: l, a, s, hg, h => by
   simp only [MR] at h
   cases hb : Lh x.s s && Ew x.args a with
   | false => rw [hb] at h; exact LG hg.2 h
   | true =>
     rw [hb] at h
     simp only [Bool.and_eq_true] at hb
     rw [← I2 hb.1, ← CO _ _ hb.2]
     simp only [cond_true] at h
     rw [← h]
     exact hg.1
theorem LH {f : Nat} {r : AV × St} : ∀ {t : List (Nat × List Ent)} {a : List AV} {s : St}, NX prog t → MS t f a s = some r → (lim prog).call f a s = some r
 | [], _, _, _, h => by simp [MS] at h
 | (g, l) :: t, a, s, hg, h => by
   simp only [MS] at h
   cases hb : Nat.beq g f with
   | false => rw [hb] at h; exact LH hg.2 h
   | true =>
     rw [hb] at h
     rw [← Nat.eq_of_beq_eq_true hb]
     exact LG hg.1 h
theorem JL {tb : List (Nat × List Ent)} (hg : NX prog tb) : ∀ n, Sub (runM tb prog n) (lim prog)
 | 0 => ⟨fun hr => by simp [runM, dead] at hr, fun hr => by simp [runM, dead] at hr⟩
 | n + 1 => ⟨fun {f a s r} hr => by
    simp only [runM] at hr
    split at hr
    · cases hr; rename_i h; exact LH hg h
    · rw [NV]; exact Gs (JL hg n) hr,
   fun {c e s r} hr => by
    simp only [runM] at hr
    rw [NW]; exact B5 (JL hg n) hr⟩
def isR (r : AV) (s' : St) : Option (AV × St) → Bool
 | some (v, s) => beqA v r && Lh s s'
 | none => false
theorem Ph {r : AV} {s' : St} {o : Option (AV × St)} (h : isR r s' o = true) : o = some (r, s') := by
 unfold isR at h
 split at h
 · simp only [Bool.and_eq_true] at h
   rw [E8 _ _ h.1, I2 h.2]
 · cases h
theorem Ak {f : Nat} {x : Ent} (tb : List (Nat × List Ent)) (n : Nat) (hg : NX prog tb) (h : isR x.r x.s' ((runM tb prog n).call f x.args x.s) = true) : x.ok prog f :=
 (JL hg n).call (Ph h)
theorem Pi {f : Nat} {s' : St} (h : (lim prog).call f [] s0 = some (.b true, s')) : ∃ n s', (run prog n).call f [] s0 = some (.b true, s') := by
 obtain ⟨n, h⟩ := Ab.1 h
 exact ⟨n, s', h⟩
end
end Go.Proofs.YtbfgoopcnkeblaaGreat.Am
