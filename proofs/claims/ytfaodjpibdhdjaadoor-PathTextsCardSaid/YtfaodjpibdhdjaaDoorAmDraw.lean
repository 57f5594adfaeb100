/-
  Regions that draw their order: what an operation hangs on.
-/
import Derived.Test.YtfaodjpibdhdjaaDoorAmCode
set_option linter.all false
set_option linter.unusedVariables false
set_option linter.unusedSimpArgs false
set_option linter.unusedSectionVars false
set_option linter.constructorNameAsVariable false
namespace Go.Proofs.YtfaodjpibdhdjaaDoor.Am
section
variable {self : Self} {e e2 : Tr} {s s1 s2 : St} {v : AV}

theorem X.ev_congr {x : X} (h : ∀ t ∈ x.tmps, e.get t = e2.get t) : x.ev e = x.ev e2 := by
  cases x with
  | t n => exact h n (by simp [X.tmps])
  | c v => rfl
theorem evX_congr : ∀ {xs : List X}, (∀ t ∈ Xs.tmps xs, e.get t = e2.get t) → evX e xs = evX e2 xs
  | [], _ => rfl
  | x :: l, h => by
    simp only [Xs.tmps, List.mem_append] at h
    simp only [evX]
    rw [X.ev_congr fun t ht => h t (.inl ht), evX_congr fun t ht => h t (.inr ht)]
theorem optX_congr {x : Option X} (h : ∀ t ∈ Xo.tmps x, e.get t = e2.get t) : optX e x = optX e2 x := by
  cases x with
  | none => rfl
  | some x => simp only [optX]; rw [X.ev_congr h]
theorem evParts_congr : ∀ {ps : List (Nat × Nat × X)} {s : St} {l : List AV}, (∀ t ∈ Xp.tmps ps, e.get t = e2.get t) → evParts e s ps l = evParts e2 s ps l
  | [], _, _, _ => rfl
  | (o, n, x) :: ps, s, l, h => by
    simp only [Xp.tmps, List.mem_append] at h
    simp only [evParts]
    rw [X.ev_congr fun t ht => h t (.inl ht)]
    cases pub s (x.ev e2) with
    | none => rfl
    | some r =>
      obtain ⟨a, s'⟩ := r
      simp only
      split
      · cases over l o a.cells with
        | none => rfl
        | some l' => exact evParts_congr fun t ht => h t (.inr ht)
      · rfl

theorem evOp_congr {op : AOp} (h : ∀ t ∈ op.tmps, e.get t = e2.get t) : evOp self e s op = evOp self e2 s op := by
  cases op <;> simp only [AOp.tmps, List.mem_append] at h <;> simp only [evOp]
  case mv x => rw [X.ev_congr h]
  case pick c a b => rw [X.ev_congr fun t ht => h t (.inl ht), X.ev_congr (x := a) fun t ht => h t (.inr (.inl ht)), X.ev_congr (x := b) fun t ht => h t (.inr (.inr ht))]
  case box T n x => rw [X.ev_congr h]
  case adp T z n x => rw [X.ev_congr h]
  case build z ps => rw [evParts_congr h]
  case bsl es xs => rw [evX_congr h]
  case ld ag n x => rw [X.ev_congr h]
  case st n a w => rw [X.ev_congr (x := a) fun t ht => h t (.inl ht), X.ev_congr (x := w) fun t ht => h t (.inr ht)]
  case nck x => rw [X.ev_congr h]
  case bin o x y => rw [X.ev_congr (x := x) fun t ht => h t (.inl ht), X.ev_congr (x := y) fun t ht => h t (.inr ht)]
  case eq k ng x y => rw [X.ev_congr (x := x) fun t ht => h t (.inl ht), X.ev_congr (x := y) fun t ht => h t (.inr ht)]
  case un o x => rw [X.ev_congr h]
  case cvI k x => rw [X.ev_congr h]
  case cvId x => rw [X.ev_congr h]
  case cvRS x => rw [X.ev_congr h]
  case cvBS x => rw [X.ev_congr h]
  case cvSB T x => rw [X.ev_congr h]
  case cvU T n x => rw [X.ev_congr h]
  case ud x => rw [X.ev_congr h]
  case us T x n => rw [X.ev_congr (x := x) fun t ht => h t (.inl ht), X.ev_congr (x := n) fun t ht => h t (.inr ht)]
  case cp0 es x y => rw [X.ev_congr (x := x) fun t ht => h t (.inl ht), X.ev_congr (x := y) fun t ht => h t (.inr ht)]
  case apz es T z x y => rw [X.ev_congr (x := x) fun t ht => h t (.inl ht), X.ev_congr (x := y) fun t ht => h t (.inr ht)]
  case ovl es x y => rw [X.ev_congr (x := x) fun t ht => h t (.inl ht), X.ev_congr (x := y) fun t ht => h t (.inr ht)]
  case mnz T x => rw [X.ev_congr h]
  case mki t x => rw [X.ev_congr h]
  case mkf f xs => rw [evX_congr h]
  case mkM nm x => rw [X.ev_congr h]
  case nckM nm tab x => rw [X.ev_congr h]
  case clr es z x => rw [X.ev_congr h]
  case ins kk m k w => rw [X.ev_congr (x := m) fun t ht => h t (.inl ht), X.ev_congr (x := k) fun t ht => h t (.inr (.inl ht)), X.ev_congr (x := w) fun t ht => h t (.inr (.inr ht))]
  case look kk z ok m k => rw [X.ev_congr (x := m) fun t ht => h t (.inl ht), X.ev_congr (x := k) fun t ht => h t (.inr ht)]
  case slS x lo hi => rw [X.ev_congr (x := x) fun t ht => h t (.inl ht), optX_congr (x := lo) fun t ht => h t (.inr (.inl ht)), optX_congr (x := hi) fun t ht => h t (.inr (.inr ht))]
  case slc pop es x lo hi mx => rw [X.ev_congr (x := x) fun t ht => h t (.inl ht), optX_congr (x := lo) fun t ht => h t (.inr (.inl ht)), optX_congr (x := hi) fun t ht => h t (.inr (.inr (.inl ht))), optX_congr (x := mx) fun t ht => h t (.inr (.inr (.inr ht)))]
  case slcA len es x lo hi => rw [X.ev_congr (x := x) fun t ht => h t (.inl ht), optX_congr (x := lo) fun t ht => h t (.inr (.inl ht)), optX_congr (x := hi) fun t ht => h t (.inr (.inr ht))]
  case mks T es z n c => rw [X.ev_congr (x := n) fun t ht => h t (.inl ht), X.ev_congr (x := c) fun t ht => h t (.inr ht)]
  case fa off x => rw [X.ev_congr h]
  case fld ag off n x => rw [X.ev_congr h]
  case ia es x i => rw [X.ev_congr (x := x) fun t ht => h t (.inl ht), X.ev_congr (x := i) fun t ht => h t (.inr ht)]
  case iaA len es x i => rw [X.ev_congr (x := x) fun t ht => h t (.inl ht), X.ev_congr (x := i) fun t ht => h t (.inr ht)]
  case ixS x i => rw [X.ev_congr (x := x) fun t ht => h t (.inl ht), X.ev_congr (x := i) fun t ht => h t (.inr ht)]
  case ixA len es ag x i => rw [X.ev_congr (x := x) fun t ht => h t (.inl ht), X.ev_congr (x := i) fun t ht => h t (.inr ht)]
  case tas t ok z x => rw [X.ev_congr h]
  case tasI ts ok x => rw [X.ev_congr h]
  case ext x n => rw [X.ev_congr h]
  case call f xs => rw [evX_congr h]
  case callK f xs => rw [evX_congr h]
  case callQ b f xs => rw [evX_congr h]
  case callI f xs => rw [evX_congr h]
  case callX f xs => rw [X.ev_congr (x := f) fun t ht => h t (.inl ht), evX_congr fun t ht => h t (.inr ht)]
  case inv tab r xs => rw [X.ev_congr (x := r) fun t ht => h t (.inl ht), evX_congr fun t ht => h t (.inr ht)]
  case len k x => rw [X.ev_congr h]
  case cap x => rw [X.ev_congr h]
  case app es T x y => rw [X.ev_congr (x := x) fun t ht => h t (.inl ht), X.ev_congr (x := y) fun t ht => h t (.inr ht)]
  case appQ es T x y => rw [X.ev_congr (x := x) fun t ht => h t (.inl ht), X.ev_congr (x := y) fun t ht => h t (.inr ht)]
  case mm mx x y => rw [X.ev_congr (x := x) fun t ht => h t (.inl ht), X.ev_congr (x := y) fun t ht => h t (.inr ht)]
  case siter x => rw [X.ev_congr h]
  case snext x => rw [X.ev_congr h]
  case xtn r xs => rw [evX_congr h]

theorem quiet_congr {op : AOp} (h : ∀ t ∈ op.tmps, e.get t = e2.get t) : quiet e s op = quiet e2 s op := by
  cases op <;> simp only [AOp.tmps, List.mem_append] at h <;> simp only [quiet]
  case build z ps =>
    have : ∀ {l : List (Nat × Nat × X)}, (∀ t ∈ Xp.tmps l, e.get t = e2.get t) → (l.all fun p => noTok (p.2.2.ev e)) = l.all fun p => noTok (p.2.2.ev e2) := by
      intro l
      induction l with
      | nil => intro _; rfl
      | cons p l ih =>
        obtain ⟨o, n, x⟩ := p
        intro h
        simp only [Xp.tmps, List.mem_append] at h
        simp only [List.all_cons]
        rw [X.ev_congr fun t ht => h t (.inl ht), ih fun t ht => h t (.inr ht)]
    exact this h
  case bsl es xs => rw [evX_congr h]
  case ld ag n x => rw [X.ev_congr h]
  case mki t x => rw [X.ev_congr h]
  case mkf f xs => rw [evX_congr h]
  case slc pop es x lo hi mx => rw [X.ev_congr (x := x) fun t ht => h t (.inl ht)]

theorem pub_noTok {a : AV} (h : noTok a = true) : pub s a = some (a, s) := by
  cases a <;> try rfl
  case sl es xs m => cases m <;> first | rfl | simp [noTok] at h
  case ep l o m => cases m <;> first | rfl | simp [noTok] at h
  case sd => simp [noTok] at h
theorem pubL_noTok : ∀ {l : List AV}, l.all noTok = true → pubL s l = some (l, s)
  | [], _ => rfl
  | a :: l, h => by
    simp only [List.all_cons, Bool.and_eq_true] at h
    simp only [pubL, pub_noTok h.1, pubL_noTok h.2]
theorem evParts_noTok : ∀ {ps : List (Nat × Nat × X)} {l m : List AV} {s s1 : St}, (ps.all fun p => noTok (p.2.2.ev e)) = true → evParts e s ps l = some (m, s1) → s1 = s ∧ ∀ s2, evParts e s2 ps l = some (m, s2)
  | [], l, m, s, s1, _, h => by simp only [evParts] at h; cases h; exact ⟨rfl, fun _ => rfl⟩
  | (o, n, x) :: ps, l, m, s, s1, hq, h => by
    simp only [List.all_cons, Bool.and_eq_true] at hq
    simp only [evParts, pub_noTok hq.1] at h
    split at h <;> try (cases h; done)
    rename_i hlen
    split at h <;> try (cases h; done)
    rename_i l' hov
    obtain ⟨h1, h2⟩ := evParts_noTok hq.2 h
    refine ⟨h1, fun s2 => ?_⟩
    simp only [evParts, pub_noTok hq.1]
    rw [if_pos hlen]
    simp only [hov]
    exact h2 s2

theorem ret1_any {o : Option AV} {r : AV × St} (h : ret1 s o = some r) : r.2 = s ∧ ∀ s2, ret1 s2 o = some (r.1, s2) := by
  cases o with
  | none => simp [ret1] at h
  | some x => simp only [ret1] at h; cases h; exact ⟨rfl, fun _ => rfl⟩

theorem sliceA_noTok {pop : Bool} {es : Nat} {x : AV} {lo hi mx : Option AV} (hq : noTok x = true) (h : sliceA s pop es x lo hi mx = some (v, s1)) : s1 = s ∧ ∀ s2, sliceA s2 pop es x lo hi mx = some (v, s2) := by
  have hp := fun s => pub_noTok (s := s) hq
  cases x <;> try (simp only [sliceA] at h; cases h; done)
  case bl id e' off n y =>
    simp only [sliceA] at h ⊢
    split at h <;> try (cases h; done)
    rename_i l hh hb
    split at h
    · cases h
      exact ⟨rfl, fun s2 => by simp only [hb]⟩
    · split at h <;> try (cases h; done)
      rename_i c hc
      split at h <;> try (cases h; done)
      rename_i hcc
      cases h
      exact ⟨rfl, fun s2 => by simp only [hb, hc, if_pos hcc]⟩
  case wz =>
    simp only [sliceA] at h ⊢
    split at h <;> try (cases h; done)
    · cases h; exact ⟨rfl, fun _ => rfl⟩
    · split at h <;> try (cases h; done)
      cases h; exact ⟨rfl, fun _ => rfl⟩
  case nsl =>
    simp only [sliceA] at h ⊢
    split at h <;> try (cases h; done)
    · cases h; exact ⟨rfl, fun _ => rfl⟩
    · split at h <;> try (cases h; done)
      cases h; exact ⟨rfl, fun _ => rfl⟩
  case ws f e xs =>
    simp only [sliceA] at h ⊢
    split at h <;> try (cases h; done)
    rename_i l hh hb
    split at h
    · split at h <;> try (cases h; done)
      split at h <;> try (cases h; done)
      rename_i hc
      cases h
      exact ⟨rfl, fun s2 => by simp only [hb, if_pos hc]⟩
    · split at h
      · rename_i hc; cases h; exact ⟨rfl, fun s2 => by simp only [hb, if_pos hc]⟩
      · rename_i hc; cases h; exact ⟨rfl, fun s2 => by simp only [hb, if_neg hc]⟩
  case sl e xs m =>
    cases m with
    | tok k u => simp [noTok] at hq
    | full =>
      simp only [sliceA] at h ⊢
      split at h <;> try (cases h; done)
      rename_i l hh hb
      split at h
      · split at h <;> try (cases h; done)
        split at h <;> try (cases h; done)
        rw [hp] at h
        cases h
        refine ⟨rfl, fun s2 => ?_⟩
        rename_i hc
        simp only [hb, hp, if_pos hc]
      · split at h
        · rename_i hc; cases h; exact ⟨rfl, fun s2 => by simp only [hb, if_pos hc]⟩
        · rename_i hc
          split at h
          · rename_i hc2; cases h; exact ⟨rfl, fun s2 => by simp only [hb, if_neg hc, if_pos hc2]⟩
          · rename_i hc2; cases h; exact ⟨rfl, fun s2 => by simp only [hb, if_neg hc, if_neg hc2]⟩
    | shut =>
      simp only [sliceA] at h ⊢
      split at h <;> try (cases h; done)
      rename_i l hh hb
      split at h
      · split at h <;> try (cases h; done)
        split at h <;> try (cases h; done)
        rw [hp] at h
        cases h
        refine ⟨rfl, fun s2 => ?_⟩
        rename_i hc
        simp only [hb, hp, if_pos hc]
      · split at h
        · rename_i hc; cases h; exact ⟨rfl, fun s2 => by simp only [hb, if_pos hc]⟩
        · rename_i hc; cases h; exact ⟨rfl, fun s2 => by simp only [hb, if_neg hc]⟩

theorem lenA_state {k : Nat} {x : AV} (hk : k ≤ 1) (s2 : St) : lenA s k x = lenA s2 k x := by
  unfold lenA
  split <;> first | rfl | omega

theorem evOp_quiet {op : AOp} (hc : op.cls ≠ 2) (hq : quiet e s op = true) (h : evOp self e s op = some (v, s1)) : s1 = s ∧ (op.cls = 0 → ∀ s2, evOp self e s2 op = some (v, s2)) := by
  cases op <;> simp only [AOp.cls, ne_eq, not_true_eq_false] at hc <;> simp only [evOp] at h ⊢ <;> simp only [quiet] at hq
  case mv x => cases h; exact ⟨rfl, fun _ _ => rfl⟩
  case pick c a b =>
    split at h <;> try (cases h; done)
    all_goals (cases h; exact ⟨rfl, fun _ _ => rfl⟩)
  case build z ps =>
    split at h <;> try (cases h; done)
    rename_i l s' hp
    cases h
    obtain ⟨h1, h2⟩ := evParts_noTok hq hp
    exact ⟨h1, fun _ s2 => by rw [h2 s2]⟩
  case bsl es xs =>
    rw [pubL_noTok hq] at h
    simp only at h
    split at h <;> try (cases h; done)
    rename_i hcond
    cases h
    refine ⟨rfl, fun _ s2 => ?_⟩
    rw [pubL_noTok hq]
    simp only [if_pos hcond]
  case ld ag n x =>
    refine ⟨?_, fun hh => by simp [AOp.cls] at hh⟩
    split at h <;> try (cases h; done)
    · rename_i l hl
      rw [hl] at hq
      simp only at hq
      rw [pubL_noTok hq] at h
      cases h; rfl
    · cases h; rfl
  case nck x =>
    split at h <;> try (cases h; done)
    all_goals (cases h; exact ⟨rfl, fun _ _ => rfl⟩)
  case bin o x y => have := ret1_any h; exact ⟨this.1, fun _ => this.2⟩
  case eq k ng x y =>
    split at h <;> try (cases h; done)
    cases h; exact ⟨rfl, fun _ _ => rfl⟩
  case un o x => have := ret1_any h; exact ⟨this.1, fun _ => this.2⟩
  case cvI k x =>
    split at h <;> try (cases h; done)
    cases h; exact ⟨rfl, fun _ _ => rfl⟩
  case cvId x =>
    split at h <;> try (cases h; done)
    cases h; exact ⟨rfl, fun _ _ => rfl⟩
  case cvRS x =>
    split at h <;> try (cases h; done)
    cases h; exact ⟨rfl, fun _ _ => rfl⟩
  case cvBS x =>
    refine ⟨?_, fun hh => by simp [AOp.cls] at hh⟩
    split at h <;> try (cases h; done)
    · cases h; rfl
    · cases h; rfl
    · split at h <;> try (cases h; done)
      split at h <;> try (cases h; done)
      cases h; rfl
    · split at h <;> try (cases h; done)
      cases h; rfl
    · split at h <;> try (cases h; done)
      split at h <;> try (cases h; done)
      split at h <;> try (cases h; done)
      cases h; rfl
  case cvU T n x =>
    refine ⟨?_, fun hh => by simp [AOp.cls] at hh⟩
    split at h <;> try (cases h; done)
    split at h <;> try (cases h; done)
    split at h <;> try (cases h; done)
    cases h; rfl
  case ud x =>
    unfold udA at h ⊢
    split at h <;> try (cases h; done)
    all_goals (cases h; exact ⟨rfl, fun _ _ => rfl⟩)
  case mki t x =>
    rw [pub_noTok hq] at h
    cases h
    exact ⟨rfl, fun _ s2 => by rw [pub_noTok hq]⟩
  case mkf f xs =>
    rw [pubL_noTok hq] at h
    cases h
    exact ⟨rfl, fun _ s2 => by rw [pubL_noTok hq]⟩
  case mkM nm x =>
    split at h <;> try (cases h; done)
    cases h; exact ⟨rfl, fun _ _ => rfl⟩
  case nckM nm tab x =>
    split at h <;> try (cases h; done)
    split at h <;> try (cases h; done)
    rename_i hc
    cases h; exact ⟨rfl, fun _ s2 => by rw [if_pos hc]⟩
  case look kk z ok m k =>
    refine ⟨?_, fun hh => by simp [AOp.cls] at hh⟩
    split at h <;> try (cases h; done)
    split at h <;> (cases h; try rfl)
  case slS x lo hi =>
    split at h <;> try (cases h; done)
    split at h <;> try (cases h; done)
    cases h; exact ⟨rfl, fun _ _ => rfl⟩
  case slc pop es x lo hi mx =>
    obtain ⟨h1, h2⟩ := sliceA_noTok hq h
    exact ⟨h1, fun _ => h2⟩
  case slcA len es x lo hi =>
    split at h <;> try (cases h; done)
    rename_i id off l hh hx hb
    cases h; exact ⟨rfl, fun _ s2 => by simp only [hx, hb]⟩
  case fa off x =>
    split at h <;> try (cases h; done)
    all_goals (cases h; exact ⟨rfl, fun _ _ => rfl⟩)
  case fld ag off n x =>
    split at h <;> try (cases h; done)
    split at h <;> try (cases h; done)
    have := ret1_any h; exact ⟨this.1, fun _ => this.2⟩
  case ia es x i =>
    split at h <;> try (cases h; done)
    case h_3 =>
      split at h <;> try (cases h; done)
      rename_i hc
      cases h
      exact ⟨rfl, fun _ s2 => by rw [if_pos hc]⟩
    all_goals
      split at h <;> try (cases h; done)
      rename_i hc
      split at h <;> try (cases h; done)
      cases h
      exact ⟨rfl, fun _ s2 => by rw [if_pos hc]⟩
  case iaA len es x i =>
    split at h <;> try (cases h; done)
    split at h <;> try (cases h; done)
    rename_i hc
    split at h <;> try (cases h; done)
    all_goals (cases h; exact ⟨rfl, fun _ s2 => by rw [if_pos hc]⟩)
  case ixS x i =>
    split at h <;> try (cases h; done)
    split at h <;> try (cases h; done)
    cases h; exact ⟨rfl, fun _ _ => rfl⟩
  case ixA len es ag x i =>
    split at h <;> try (cases h; done)
    split at h <;> try (cases h; done)
    rename_i hc
    split at h <;> try (cases h; done)
    have := ret1_any h
    exact ⟨this.1, fun _ s2 => by rw [if_pos hc]; exact this.2 s2⟩
  case tas t ok z x =>
    split at h <;> try (cases h; done)
    · split at h
      · rename_i hc; cases h; exact ⟨rfl, fun _ s2 => by rw [if_pos hc]⟩
      · rename_i hc
        split at h <;> try (cases h; done)
        rename_i hc2; cases h; exact ⟨rfl, fun _ s2 => by rw [if_neg hc, if_pos hc2]⟩
    · split at h <;> try (cases h; done)
      rename_i hc; cases h; exact ⟨rfl, fun _ s2 => by rw [if_pos hc]⟩
  case tasI ts ok x =>
    split at h <;> try (cases h; done)
    · split at h
      · rename_i hc; cases h; exact ⟨rfl, fun _ s2 => by rw [if_pos hc]⟩
      · rename_i hc
        split at h <;> try (cases h; done)
        rename_i hc2; cases h; exact ⟨rfl, fun _ s2 => by rw [if_neg hc, if_pos hc2]⟩
    · split at h <;> try (cases h; done)
      rename_i hc; cases h; exact ⟨rfl, fun _ s2 => by rw [if_pos hc]⟩
  case ext x n =>
    split at h <;> try (cases h; done)
    have := ret1_any h; exact ⟨this.1, fun _ => this.2⟩
  case len k x =>
    have := ret1_any h
    refine ⟨this.1, fun hh s2 => ?_⟩
    have hk : k ≤ 1 := by
      simp only [AOp.cls] at hh
      split at hh
      · rename_i h; rw [Nat.ble_eq] at h; exact h
      · cases hh
    rw [← lenA_state (s := s) hk s2]
    exact this.2 s2
  case cap x =>
    split at h <;> try (cases h; done)
    case h_4 =>
      split at h <;> try (cases h; done)
      rename_i hc
      cases h; exact ⟨rfl, fun _ s2 => by rw [if_pos hc]⟩
    case h_5 =>
      split at h <;> try (cases h; done)
      rename_i hc
      cases h; exact ⟨rfl, fun _ s2 => by rw [if_pos hc]⟩
    all_goals (cases h; exact ⟨rfl, fun _ _ => rfl⟩)
  case mm mx x y =>
    split at h <;> try (cases h; done)
    cases h; exact ⟨rfl, fun _ _ => rfl⟩
theorem quiet_state {op : AOp} (hc : op.cls = 0) (s2 : St) : quiet e s op = quiet e s2 op := by
  cases op <;> first | rfl | simp [AOp.cls] at hc
end
end Go.Proofs.YtfaodjpibdhdjaaDoor.Am
