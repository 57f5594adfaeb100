/-
  The abstract machine without a bound on its depth: the limit of its runs, and the equations that hold of it.
-/
import Derived.Test.YtfaodjpibdhdjaaDoorAmTab
set_option linter.all false
set_option linter.unusedVariables false
set_option linter.unusedSimpArgs false
set_option linter.unusedSectionVars false
set_option linter.constructorNameAsVariable false
namespace Go.Proofs.YtfaodjpibdhdjaaDoor.Am
theorem bothI_mono {s : St} {oA oB pA pB : Option (AV × St)} {r : AV × St} (hA : ∀ x, oA = some x → pA = some x) (hB : ∀ x, oB = some x → pB = some x) (h : bothI s oA oB = some r) : bothI s pA pB = some r := by
  cases oA with
  | none => simp [bothI] at h
  | some x => cases oB with
    | none => simp [bothI] at h
    | some y => rw [hA x rfl, hB y rfl]; exact h

theorem bothI_parts {s : St} {oA oB : Option (AV × St)} {r : AV × St} (h : bothI s oA oB = some r) : ∃ x y, oA = some x ∧ oB = some y := by
  cases oA with
  | none => simp [bothI] at h
  | some x => cases oB with
    | none => simp [bothI] at h
    | some y => exact ⟨x, y, rfl, rfl⟩


/-- What one answers, the other one answers too. -/
structure Sub (a b : Self) : Prop where
  call : ∀ {f args s r}, a.call f args s = some r → b.call f args s = some r
  code : ∀ {c e s r}, a.code c e s = some r → b.code c e s = some r

section mono
variable {a b : Self} (h : Sub a b)
include h

theorem callV_mono {f : AV} {args : List AV} {s : St} {r : AV × St} (hr : callV a f args s = some r) : callV b f args s = some r := by
  unfold callV at hr ⊢
  split at hr <;> try (cases hr; done)
  · exact h.call hr
  · split at hr <;> try (cases hr; done)
    rename_i hb
    split at hr <;> try (cases hr; done)
    rename_i hp
    split at hr <;> try (cases hr; done)
    rename_i hc
    rw [h.code hc]
    simp only
    split at hr <;> try (cases hr; done)
    rename_i hb2
    split at hr <;> try (cases hr; done)
    all_goals
      rename_i hc2
      rw [h.code hc2]
      exact hr

theorem evOp_mono {e : Tr} {s : St} {op : AOp} {r : AV × St} (hr : evOp a e s op = some r) : evOp b e s op = some r := by
  cases op <;> try exact hr
  case callK f xs =>
    simp only [evOp] at hr ⊢
    exact h.call hr
  case callQ b f xs =>
    simp only [evOp] at hr ⊢
    split at hr <;> try (cases hr; done)
    rename_i h1
    split at hr <;> try (cases hr; done)
    rename_i h2
    rw [h.call h2]
    exact hr
  case callI f xs =>
    simp only [evOp] at hr ⊢
    split at hr <;> try (cases hr; done)
    split at hr <;> try (cases hr; done)
    split at hr
    · exact bothI_mono (fun x hx => h.call hx) (fun x hx => h.call hx) hr
    · split at hr <;> try (cases hr; done)
      exact h.call hr
  case call f xs =>
    simp only [evOp] at hr ⊢
    split at hr <;> try (cases hr; done)
    exact h.call hr
  case callX f xs =>
    simp only [evOp] at hr ⊢
    split at hr <;> try (cases hr; done)
    exact callV_mono h hr
  case inv t x xs =>
    simp only [evOp] at hr ⊢
    split at hr <;> try (cases hr; done)
    rename_i h1 h2
    split at hr <;> try (cases hr; done)
    rename_i h3
    exact h.call hr

theorem evOps_mono : ∀ {l : List Op} {e : Tr} {s : St} {r : Tr × St}, evOps a l e s = some r → evOps b l e s = some r
  | [], _, _, _, hr => hr
  | o :: l, e, s, r, hr => by
    simp only [evOps] at hr ⊢
    by_cases hw : wants e o.guard = true
    · rw [if_pos hw] at hr ⊢
      split at hr <;> try (cases hr; done)
      rename_i v s1 hv
      rw [evOp_mono h hv]
      exact evOps_mono hr
    · rw [if_neg hw] at hr ⊢
      exact evOps_mono hr

theorem evD1_mono {c : Op} {e : Tr} {s : St} {r : Tr × St} (hr : evD1 a c e s = some r) : evD1 b c e s = some r := by
  unfold evD1 at hr ⊢
  by_cases hw : wants e c.guard = true
  · rw [if_pos hw] at hr ⊢
    split at hr <;> try (cases hr; done)
    rename_i hq
    rw [if_pos hq]
    split at hr <;> try (cases hr; done)
    rename_i v s1 hv
    rw [evOp_mono h hv]
    exact hr
  · rw [if_neg hw] at hr ⊢
    exact hr

theorem traceD_mono : ∀ {l : List Op} {e : Tr} {s : St} {r : List (Tr × St)}, traceD a l e s = some r → traceD b l e s = some r
  | [], _, _, _, hr => hr
  | o :: l, e, s, r, hr => by
    simp only [traceD] at hr ⊢
    split at hr <;> try (cases hr; done)
    rename_i h1
    rw [evD1_mono h h1]
    simp only
    split at hr <;> try (cases hr; done)
    rename_i h2
    rw [traceD_mono h2]
    exact hr

theorem sameAt_mono {e : Tr} {op : AOp} {v : AV} {x : Option (Tr × St)} (hr : sameAt a e op v x = true) : sameAt b e op v x = true := by
  cases x with
  | none => exact hr
  | some x =>
    obtain ⟨e1, s1⟩ := x
    simp only [sameAt, Bool.and_eq_true] at hr ⊢
    refine ⟨hr.1, ?_⟩
    have h2 := hr.2
    split at h2 <;> try (cases h2; done)
    rename_i hv
    rw [evOp_mono h hv]
    exact h2

theorem chkD_mono {ops : List Op} {tr : List (Tr × St)} : ∀ {w : List (Nat × Nat × Nat)}, chkD a ops tr w = true → chkD b ops tr w = true
  | [], hr => hr
  | (i, lo, hi) :: l, hr => by
    simp only [chkD, Bool.and_eq_true] at hr ⊢
    refine ⟨?_, chkD_mono hr.2⟩
    have h1 := hr.1
    split at h1 <;> try (cases h1; done)
    rename_i o e s ho ht
    rw [Bool.or_eq_true] at h1 ⊢
    refine h1.imp id fun h1 => ?_
    split at h1 <;> try (cases h1; done)
    rename_i v s1 hv
    rw [evOp_mono h hv]
    simp only [List.all_eq_true] at h1 ⊢
    exact fun x hx => sameAt_mono h (h1 x hx)

theorem evD_mono {ops : List Op} {w : List (Nat × Nat × Nat)} {e : Tr} {s : St} {r : Tr × St} (hr : evD a ops w e s = some r) : evD b ops w e s = some r := by
  unfold evD at hr ⊢
  split at hr <;> try (cases hr; done)
  rename_i h1
  rw [traceD_mono h h1]
  simp only
  split at hr <;> try (cases hr; done)
  rename_i h2
  rw [if_pos (chkD_mono h h2)]
  exact hr

theorem evC_mono : ∀ {c : C} {e : Tr} {s : St} {r : Ex × Tr × St}, evC a c e s = some r → evC b c e s = some r
  | .skip, _, _, _, hr => hr
  | .reg ops, e, s, r, hr => by
    simp only [evC] at hr ⊢
    split at hr <;> try (cases hr; done)
    rename_i h1
    rw [evOps_mono h h1]; exact hr
  | .regD ops w, e, s, r, hr => by
    simp only [evC] at hr ⊢
    split at hr <;> try (cases hr; done)
    rename_i h1
    rw [evD_mono h h1]; exact hr
  | .seq c d, e, s, r, hr => by
    simp only [evC] at hr ⊢
    cases hc : evC a c e s with
    | none => rw [hc] at hr; cases hr
    | some t =>
      obtain ⟨x, e1, s1⟩ := t
      rw [hc] at hr
      rw [evC_mono hc]
      cases x with
      | n => exact evC_mono (c := d) hr
      | x i => exact hr
      | r => exact hr
  | .cond x c d, e, s, r, hr => by
    simp only [evC] at hr ⊢
    split at hr <;> try (cases hr; done)
    all_goals exact evC_mono hr
  | .blk i c, e, s, r, hr => by
    simp only [evC] at hr ⊢
    cases hc : evC a c e s with
    | none => rw [hc] at hr; cases hr
    | some t =>
      rw [hc] at hr
      rw [evC_mono hc]
      exact hr
  | .loop c, e, s, r, hr => by
    simp only [evC] at hr ⊢
    cases hc : evC a c e s with
    | none => rw [hc] at hr; cases hr
    | some t =>
      obtain ⟨x, e1, s1⟩ := t
      rw [hc] at hr
      rw [evC_mono hc]
      cases x with
      | n => exact h.code hr
      | x i => exact hr
      | r => exact hr
  | .exit i, _, _, _, hr => hr
  | .ret, _, _, _, hr => hr
  | .rf f ps c d, e, s, r, hr => by
    simp only [evC] at hr ⊢
    split at hr <;> try (cases hr; done)
    split at hr <;> try (cases hr; done)
    rename_i h1
    rw [h.call h1]; exact hr
  | .thw t, _, _, _, hr => hr
  | .bad, _, _, _, hr => hr

theorem callB_mono {fn : Fun} {args : List AV} {s : St} {r : AV × St} (hr : callB a fn args s = some r) : callB b fn args s = some r := by
  unfold callB at hr ⊢
  cases hc : evC a fn.body (initT 0 args .e) { s with lo := s.nb } with
  | none => rw [hc] at hr; cases hr
  | some x =>
    rw [hc] at hr
    rw [evC_mono h hc]
    exact hr
theorem callF_mono {prog : Nat → Option Fun} {f : Nat} {args : List AV} {s : St} {r : AV × St} (hr : callF prog a f args s = some r) : callF prog b f args s = some r := by
  unfold callF at hr ⊢
  split at hr <;> try (cases hr; done)
  rename_i fn hfn
  split at hr
  · exact hr
  split at hr <;> try (cases hr; done)
  rename_i hb
  split at hr
  · exact hr
  · exact callB_mono h hr
end mono

theorem Sub.trans {a b c : Self} (h : Sub a b) (k : Sub b c) : Sub a c := ⟨fun hr => k.call (h.call hr), fun hr => k.code (h.code hr)⟩

theorem run_succ (prog : Nat → Option Fun) : ∀ n, Sub (run prog n) (run prog (n + 1))
  | 0 => ⟨fun hr => by simp [run] at hr, fun hr => by simp [run] at hr⟩
  | n + 1 => ⟨fun hr => callF_mono (run_succ prog n) hr, fun hr => evC_mono (run_succ prog n) hr⟩
theorem run_le (prog : Nat → Option Fun) {m : Nat} : ∀ {n : Nat}, m ≤ n → Sub (run prog m) (run prog n)
  | 0, h => by have : m = 0 := by omega
               subst this; exact ⟨id, id⟩
  | n + 1, h => by
    by_cases hm : m = n + 1
    · subst hm; exact ⟨id, id⟩
    · exact (run_le prog (by omega)).trans (run_succ prog n)

open Classical in
noncomputable def limO {α : Type} (F : Nat → Option α) : Option α := if h : ∃ n, (F n).isSome = true then F h.choose else none

theorem limO_iff {α : Type} {F : Nat → Option α} (hm : ∀ m n r, m ≤ n → F m = some r → F n = some r) (r : α) : limO F = some r ↔ ∃ n, F n = some r := by
  unfold limO
  constructor
  · intro h
    split at h
    · exact ⟨_, h⟩
    · cases h
  · rintro ⟨n, h⟩
    have hex : ∃ n, (F n).isSome = true := ⟨n, by rw [h]; rfl⟩
    rw [dif_pos hex]
    obtain ⟨r', hr'⟩ := Option.isSome_iff_exists.1 hex.choose_spec
    rw [hr']
    rcases Nat.le_total n hex.choose with hle | hle
    · rw [← hm _ _ _ hle h, hr']
    · rw [← hm _ _ _ hle hr', h]

/-- The machine without a bound. -/
noncomputable def lim (prog : Nat → Option Fun) : Self :=
  { call := fun f args s => limO fun n => (run prog n).call f args s, code := fun c e s => limO fun n => (run prog n).code c e s }

section lim
variable {prog : Nat → Option Fun}

theorem lim_call_iff {f : Nat} {args : List AV} {s : St} {r : AV × St} : (lim prog).call f args s = some r ↔ ∃ n, (run prog n).call f args s = some r :=
  limO_iff (fun _ _ _ hle hr => (run_le prog hle).call hr) r
theorem lim_code_iff {c : C} {e : Tr} {s : St} {r : Ex × Tr × St} : (lim prog).code c e s = some r ↔ ∃ n, (run prog n).code c e s = some r :=
  limO_iff (fun _ _ _ hle hr => (run_le prog hle).code hr) r

theorem run_lim (n : Nat) : Sub (run prog n) (lim prog) := ⟨fun hr => lim_call_iff.2 ⟨n, hr⟩, fun hr => lim_code_iff.2 ⟨n, hr⟩⟩

theorem callV_cont {f : AV} {args : List AV} {s : St} {r : AV × St} (hr : callV (lim prog) f args s = some r) : ∃ n, callV (run prog n) f args s = some r := by
  unfold callV at hr ⊢
  split at hr <;> try (cases hr; done)
  · exact lim_call_iff.1 hr
  · split at hr <;> try (cases hr; done)
    rename_i hb
    split at hr <;> try (cases hr; done)
    rename_i hp
    split at hr <;> try (cases hr; done)
    rename_i hc
    obtain ⟨n1, hc⟩ := lim_code_iff.1 hc
    split at hr <;> try (cases hr; done)
    rename_i hb2
    split at hr <;> try (cases hr; done)
    all_goals
      rename_i hc2
      obtain ⟨n2, hc2⟩ := lim_code_iff.1 hc2
      refine ⟨max n1 n2, ?_⟩
      rw [(run_le prog (Nat.le_max_left n1 n2)).code hc]
      simp only [hb2]
      rw [(run_le prog (Nat.le_max_right n1 n2)).code hc2]
      exact hr

theorem evOp_cont {e : Tr} {s : St} {op : AOp} {r : AV × St} (hr : evOp (lim prog) e s op = some r) : ∃ n, evOp (run prog n) e s op = some r := by
  cases op <;> try exact ⟨0, hr⟩
  case callK f xs =>
    simp only [evOp] at hr ⊢
    exact lim_call_iff.1 hr
  case callQ b f xs =>
    simp only [evOp] at hr ⊢
    split at hr <;> try (cases hr; done)
    split at hr <;> try (cases hr; done)
    rename_i h2
    obtain ⟨n, h2⟩ := lim_call_iff.1 h2
    exact ⟨n, by rw [h2]; exact hr⟩
  case callI f xs =>
    simp only [evOp] at hr ⊢
    split at hr <;> try (cases hr; done)
    split at hr <;> try (cases hr; done)
    split at hr
    · obtain ⟨x, y, hA, hB⟩ := bothI_parts hr
      rw [hA, hB] at hr
      obtain ⟨n1, h1⟩ := lim_call_iff.1 hA
      obtain ⟨n2, h2⟩ := lim_call_iff.1 hB
      exact ⟨max n1 n2, by rw [(run_le prog (Nat.le_max_left n1 n2)).call h1, (run_le prog (Nat.le_max_right n1 n2)).call h2]; exact hr⟩
    · split at hr <;> try (cases hr; done)
      exact lim_call_iff.1 hr
  case call f xs =>
    simp only [evOp] at hr ⊢
    split at hr <;> try (cases hr; done)
    exact lim_call_iff.1 hr
  case callX f xs =>
    simp only [evOp] at hr ⊢
    split at hr <;> try (cases hr; done)
    exact callV_cont hr
  case inv t x xs =>
    simp only [evOp] at hr ⊢
    split at hr <;> try (cases hr; done)
    split at hr <;> try (cases hr; done)
    exact lim_call_iff.1 hr

theorem evOps_cont : ∀ {l : List Op} {e : Tr} {s : St} {r : Tr × St}, evOps (lim prog) l e s = some r → ∃ n, evOps (run prog n) l e s = some r
  | [], _, _, _, hr => ⟨0, hr⟩
  | o :: l, e, s, r, hr => by
    simp only [evOps] at hr
    by_cases hw : wants e o.guard = true
    · rw [if_pos hw] at hr
      split at hr <;> try (cases hr; done)
      rename_i v s1 hv
      obtain ⟨n1, hv⟩ := evOp_cont hv
      obtain ⟨n2, hr⟩ := evOps_cont hr
      refine ⟨max n1 n2, ?_⟩
      simp only [evOps]
      rw [if_pos hw, evOp_mono (run_le prog (Nat.le_max_left n1 n2)) hv]
      exact evOps_mono (run_le prog (Nat.le_max_right n1 n2)) hr
    · rw [if_neg hw] at hr
      obtain ⟨n, hr⟩ := evOps_cont hr
      exact ⟨n, by simp only [evOps]; rw [if_neg hw]; exact hr⟩

theorem evD1_cont {c : Op} {e : Tr} {s : St} {r : Tr × St} (hr : evD1 (lim prog) c e s = some r) : ∃ n, evD1 (run prog n) c e s = some r := by
  unfold evD1 at hr ⊢
  by_cases hw : wants e c.guard = true
  · rw [if_pos hw] at hr
    split at hr <;> try (cases hr; done)
    rename_i hq
    split at hr <;> try (cases hr; done)
    rename_i v s1 hv
    obtain ⟨n, hv⟩ := evOp_cont hv
    exact ⟨n, by rw [if_pos hw, if_pos hq, hv]; exact hr⟩
  · rw [if_neg hw] at hr
    exact ⟨0, by rw [if_neg hw]; exact hr⟩

theorem traceD_cont : ∀ {l : List Op} {e : Tr} {s : St} {r : List (Tr × St)}, traceD (lim prog) l e s = some r → ∃ n, traceD (run prog n) l e s = some r
  | [], _, _, _, hr => ⟨0, hr⟩
  | o :: l, e, s, r, hr => by
    simp only [traceD] at hr
    split at hr <;> try (cases hr; done)
    rename_i h1
    split at hr <;> try (cases hr; done)
    rename_i h2
    obtain ⟨n1, h1⟩ := evD1_cont h1
    obtain ⟨n2, h2⟩ := traceD_cont h2
    refine ⟨max n1 n2, ?_⟩
    simp only [traceD]
    rw [evD1_mono (run_le prog (Nat.le_max_left n1 n2)) h1]
    simp only
    rw [traceD_mono (run_le prog (Nat.le_max_right n1 n2)) h2]
    exact hr

theorem sameAt_cont {e : Tr} {op : AOp} {v : AV} {x : Option (Tr × St)} (hr : sameAt (lim prog) e op v x = true) : ∃ n, sameAt (run prog n) e op v x = true := by
  cases x with
  | none => exact ⟨0, hr⟩
  | some x =>
    obtain ⟨e1, s1⟩ := x
    simp only [sameAt, Bool.and_eq_true] at hr ⊢
    have h2 := hr.2
    split at h2 <;> try (cases h2; done)
    rename_i hv
    obtain ⟨n, hv⟩ := evOp_cont hv
    exact ⟨n, hr.1, by rw [hv]; exact h2⟩

theorem all_cont {e : Tr} {op : AOp} {v : AV} {tr : List (Tr × St)} : ∀ {l : List Nat}, (l.all fun k => sameAt (lim prog) e op v tr[k]?) = true → ∃ n, (l.all fun k => sameAt (run prog n) e op v tr[k]?) = true
  | [], _ => ⟨0, rfl⟩
  | k :: l, h => by
    simp only [List.all_cons, Bool.and_eq_true] at h
    obtain ⟨n1, h1⟩ := sameAt_cont h.1
    obtain ⟨n2, h2⟩ := all_cont h.2
    refine ⟨max n1 n2, ?_⟩
    simp only [List.all_cons, Bool.and_eq_true, List.all_eq_true] at h2 ⊢
    exact ⟨sameAt_mono (run_le prog (Nat.le_max_left n1 n2)) h1, fun x hx => sameAt_mono (run_le prog (Nat.le_max_right n1 n2)) (h2 x hx)⟩

theorem chkD_cont {ops : List Op} {tr : List (Tr × St)} : ∀ {w : List (Nat × Nat × Nat)}, chkD (lim prog) ops tr w = true → ∃ n, chkD (run prog n) ops tr w = true
  | [], _ => ⟨0, rfl⟩
  | (i, lo, hi) :: l, hr => by
    simp only [chkD, Bool.and_eq_true] at hr
    obtain ⟨n2, h2⟩ := chkD_cont hr.2
    have h1 := hr.1
    split at h1 <;> try (cases h1; done)
    rename_i o e s ho ht
    rw [Bool.or_eq_true] at h1
    rcases h1 with h1 | h1
    · exact ⟨n2, by simp only [chkD, Bool.and_eq_true, ho, ht, Bool.or_eq_true]; exact ⟨.inl h1, h2⟩⟩
    · split at h1 <;> try (cases h1; done)
      rename_i v s1 hv
      obtain ⟨n0, hv⟩ := evOp_cont hv
      obtain ⟨n1, h1⟩ := all_cont h1
      refine ⟨max n0 (max n1 n2), ?_⟩
      simp only [chkD, Bool.and_eq_true, ho, ht, Bool.or_eq_true]
      refine ⟨.inr ?_, chkD_mono (run_le prog (Nat.le_trans (Nat.le_max_right n1 n2) (Nat.le_max_right _ _))) h2⟩
      rw [evOp_mono (run_le prog (Nat.le_max_left n0 _)) hv]
      simp only [List.all_eq_true] at h1 ⊢
      exact fun x hx => sameAt_mono (run_le prog (Nat.le_trans (Nat.le_max_left n1 n2) (Nat.le_max_right _ _))) (h1 x hx)

theorem evD_cont {ops : List Op} {w : List (Nat × Nat × Nat)} {e : Tr} {s : St} {r : Tr × St} (hr : evD (lim prog) ops w e s = some r) : ∃ n, evD (run prog n) ops w e s = some r := by
  unfold evD at hr
  split at hr <;> try (cases hr; done)
  rename_i h1
  split at hr <;> try (cases hr; done)
  rename_i h2
  obtain ⟨n1, h1⟩ := traceD_cont h1
  obtain ⟨n2, h2⟩ := chkD_cont h2
  refine ⟨max n1 n2, ?_⟩
  unfold evD
  rw [traceD_mono (run_le prog (Nat.le_max_left n1 n2)) h1]
  simp only
  rw [if_pos (chkD_mono (run_le prog (Nat.le_max_right n1 n2)) h2)]
  exact hr

theorem evC_cont : ∀ {c : C} {e : Tr} {s : St} {r : Ex × Tr × St}, evC (lim prog) c e s = some r → ∃ n, evC (run prog n) c e s = some r
  | .skip, _, _, _, hr => ⟨0, hr⟩
  | .reg ops, e, s, r, hr => by
    simp only [evC] at hr ⊢
    split at hr <;> try (cases hr; done)
    rename_i h1
    obtain ⟨n, h1⟩ := evOps_cont h1
    exact ⟨n, by rw [h1]; exact hr⟩
  | .regD ops w, e, s, r, hr => by
    simp only [evC] at hr ⊢
    split at hr <;> try (cases hr; done)
    rename_i h1
    obtain ⟨n, h1⟩ := evD_cont h1
    exact ⟨n, by rw [h1]; exact hr⟩
  | .seq c d, e, s, r, hr => by
    simp only [evC] at hr ⊢
    cases hc : evC (lim prog) c e s with
    | none => rw [hc] at hr; cases hr
    | some t =>
      obtain ⟨x, e1, s1⟩ := t
      rw [hc] at hr
      obtain ⟨n1, h1⟩ := evC_cont hc
      cases x with
      | n =>
        obtain ⟨n2, hr⟩ := evC_cont (c := d) hr
        exact ⟨max n1 n2, by rw [evC_mono (run_le prog (Nat.le_max_left n1 n2)) h1]; exact evC_mono (run_le prog (Nat.le_max_right n1 n2)) hr⟩
      | x i => exact ⟨n1, by rw [h1]; exact hr⟩
      | r => exact ⟨n1, by rw [h1]; exact hr⟩
  | .cond x c d, e, s, r, hr => by
    simp only [evC] at hr ⊢
    split at hr <;> try (cases hr; done)
    all_goals exact evC_cont hr
  | .blk i c, e, s, r, hr => by
    simp only [evC] at hr ⊢
    cases hc : evC (lim prog) c e s with
    | none => rw [hc] at hr; cases hr
    | some t =>
      rw [hc] at hr
      obtain ⟨n1, h1⟩ := evC_cont hc
      exact ⟨n1, by rw [h1]; exact hr⟩
  | .loop c, e, s, r, hr => by
    simp only [evC] at hr ⊢
    cases hc : evC (lim prog) c e s with
    | none => rw [hc] at hr; cases hr
    | some t =>
      obtain ⟨x, e1, s1⟩ := t
      rw [hc] at hr
      obtain ⟨n1, h1⟩ := evC_cont hc
      cases x with
      | n =>
        obtain ⟨n2, hr⟩ := lim_code_iff.1 hr
        exact ⟨max n1 n2, by rw [evC_mono (run_le prog (Nat.le_max_left n1 n2)) h1]; exact (run_le prog (Nat.le_max_right n1 n2)).code hr⟩
      | x i => exact ⟨n1, by rw [h1]; exact hr⟩
      | r => exact ⟨n1, by rw [h1]; exact hr⟩
  | .exit i, _, _, _, hr => ⟨0, hr⟩
  | .ret, _, _, _, hr => ⟨0, hr⟩
  | .rf f ps c d, e, s, r, hr => by
    simp only [evC] at hr ⊢
    split at hr <;> try (cases hr; done)
    split at hr <;> try (cases hr; done)
    rename_i h1
    obtain ⟨n1, h1⟩ := lim_call_iff.1 h1
    exact ⟨n1, by rw [h1]; exact hr⟩
  | .thw t, _, _, _, hr => ⟨0, hr⟩
  | .bad, _, _, _, hr => ⟨0, hr⟩

theorem callF_cont {f : Nat} {args : List AV} {s : St} {r : AV × St} (hr : callF prog (lim prog) f args s = some r) : ∃ n, callF prog (run prog n) f args s = some r := by
  unfold callF at hr ⊢
  split at hr <;> try (cases hr; done)
  rename_i fn hfn
  split at hr
  · exact ⟨0, hr⟩
  split at hr <;> try (cases hr; done)
  rename_i hb
  split at hr
  · exact ⟨0, hr⟩
  unfold callB at hr ⊢
  cases hc : evC (lim prog) fn.body (initT 0 (wkZ fn.cin args) .e) { s with lo := s.nb } with
  | none => rw [hc] at hr; cases hr
  | some x =>
    rw [hc] at hr
    obtain ⟨n, hc⟩ := evC_cont hc
    exact ⟨n, by rw [hc]; exact hr⟩

theorem opt_ext {α : Type} {x y : Option α} (h : ∀ r, x = some r ↔ y = some r) : x = y := by
  cases x with
  | none => cases y with
    | none => rfl
    | some y => exact absurd ((h y).2 rfl) (by simp)
  | some x => exact ((h x).1 rfl).symm

/-- The limit's call is a call over the limit. -/
theorem lim_call (f : Nat) (args : List AV) (s : St) : (lim prog).call f args s = callF prog (lim prog) f args s := by
  apply opt_ext
  intro r
  rw [lim_call_iff]
  constructor
  · rintro ⟨n, h⟩
    cases n with
    | zero => simp [run] at h
    | succ n => exact callF_mono (run_lim n) h
  · intro h
    obtain ⟨n, h⟩ := callF_cont h
    exact ⟨n + 1, h⟩

theorem lim_code (c : C) (e : Tr) (s : St) : (lim prog).code c e s = evC (lim prog) c e s := by
  apply opt_ext
  intro r
  rw [lim_code_iff]
  constructor
  · rintro ⟨n, h⟩
    cases n with
    | zero => simp [run] at h
    | succ n => exact evC_mono (run_lim n) h
  · intro h
    obtain ⟨n, h⟩ := evC_cont h
    exact ⟨n + 1, h⟩
end lim
end Go.Proofs.YtfaodjpibdhdjaaDoor.Am
