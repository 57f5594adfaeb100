/-
  Code, by induction.
-/
import Derived.Test.YtfaodjpibdhdjaaDoorAmCode2
import Derived.Test.YtfaodjpibdhdjaaDoorAmRow
import Derived.Test.YtfaodjpibdhdjaaDoorAmFuse
set_option linter.all false
set_option linter.unusedVariables false
set_option linter.unusedSimpArgs false
set_option linter.unusedSectionVars false
set_option linter.constructorNameAsVariable false
namespace Go.Proofs.YtfaodjpibdhdjaaDoor.Am
section
variable {P : Program} {gt : Nat → Option (List AV)} {prog : Nat → Option Fun} {self : Self}

/-- The slots whose rows become boxes ahead of a region. -/
theorem thaw_pre {CR : Nat → Code → C → Prop} {c : C} {x : Ex} {e' : Tr} {s' : St} {w : World} {tmps : Array Value} (hn : tmps.size < 1000) : ∀ {vs : List Nat} {e : Tr} {s : St} {g : G}, (∀ v ∈ vs, v < tmps.size) → evC self (withThaw vs c) e s = some (x, e', s') → Inv CR g s w → VT g s w e tmps →
    ∃ g1 e1 s1, evC self c e1 s1 = some (x, e', s') ∧ Inv CR g1 s1 w ∧ Le g s w g1 s1 w ∧ VT g1 s1 w e1 tmps ∧ Esc s s1
  | [], e, s, g, _, h, hI, hT => ⟨g, e, s, h, hI, Le.refl _ _ _, hT, Esc.refl _⟩
  | v :: vs, e, s, g, hv, h, hI, hT => by
    simp only [withThaw, evC] at h
    cases ht : thawA s (e.get v) with
    | none => rw [ht] at h; cases h
    | some p =>
      obtain ⟨r, s1⟩ := p
      rw [ht] at h
      simp only at h
      obtain ⟨g1, hI1, hL1, hV1, hE1⟩ := thaw_ok hI (hT.2 v) ht
      have hlt := hv v (by simp)
      have hT1 : VT g1 s1 w (e.set 10 v r) tmps := by
        refine ⟨hT.1, fun t => ?_⟩
        rw [get_set 10 e v r (by omega)]
        by_cases htv : t = v
        · subst htv; rw [if_pos rfl]; exact hV1
        · rw [if_neg htv]; exact V_mono hL1 _ _ (hT.2 t)
      obtain ⟨g2, e2, s2, k1, k2, k3, k4, k5⟩ := thaw_pre hn (fun v hv' => hv v (List.mem_cons_of_mem _ hv')) h hI1 hT1
      exact ⟨g2, e2, s2, k1, k2, hL1.trans k3, k4, Esc.trans hL1.nb hE1 k5⟩

theorem thawsOf_lt {pops : List Nat} {n id : Nat} : ∀ v ∈ thawsOf pops n id, v < n := by
  intro v hv
  simp only [thawsOf, List.mem_filterMap] at hv
  obtain ⟨x, _, hx⟩ := hv
  split at hx
  · rename_i h
    cases hx
    rw [Bool.and_eq_true, Nat.blt_eq] at h
    exact h.2
  · cases hx

theorem code_ok (hS : SelfOk P gt self) (hN : NamesOk P) (hX : Ctx P gt prog) : ∀ (code : Code) {e : Tr} {s : St} {x : Ex} {e' : Tr} {s' : St} {pops : List Nat} {n : Nat}, n < 1000 → evC self (compC P gt pops n code) e s = some (x, e', s') →
    ∀ {g : G} {w : World} {rd : Option Nat} {a : Act}, (rd.isSome = true → noRf code = true) → Inv (CRof P gt) g s w → GT gt g w → VT g s w e a.tmps → a.tmps.size = n →
    code.wpIn (fence rd) 0 P (CodePost P gt g s w rd a x e' s') a w ∧ ∀ b, code = .loop b → LoopFrom (fence rd) 0 P b (CodePost P gt g s w rd a x e' s') a w
  | .skip, e, s, x, e', s', pops, n, hn, h, g, w, rd, a, hr, hI, hG, hT, hz => by
    simp only [compC, evC] at h; cases h
    exact ⟨wpIn_skip (.here trivial hI hT), fun b hb => by cases hb⟩
  | .label _, e, s, x, e', s', pops, n, hn, h, g, w, rd, a, hr, hI, hG, hT, hz => by
    refine ⟨?_, fun b hb => by cases hb⟩
    simp only [compC, evC] at h; first | (cases h; done) | (cases h; exact wpIn_label (.here trivial hI hT))
  | .region id ops draw, e, s, x, e', s', pops, n, hn, h, g, w, rd, a, hr, hI, hG, hT, hz => by
    refine ⟨?_, fun b hb => by cases hb⟩
    simp only [compC] at h
    obtain ⟨g1, e1, s1, h, hI1, hL1, hT1, hE1⟩ := thaw_pre (by omega) (by rw [hz]; exact thawsOf_lt) h hI hT
    have hG1 := GT.mono hL1 hG
    refine wpIn_mono (Q := CodePost P gt g1 s1 w rd a x e' s') ?_ fun ex a' w' hp => CodePost.trans hL1 hE1 rfl (fun _ => rfl) ⟨[], by simp, by simp, List.Pairwise.nil⟩ hp
    clear hI hG hT
    split at h
    · rename_i l hl
      cases draw with
      | true =>
        simp only [if_true] at h
        by_cases hd : drawOk ops l (winsOf (predsGo ops.toList []) l 0 l) = true
        · simp only [hd, if_true, evC] at h
          split at h <;> try (cases h; done)
          rename_i e2 s2 hops
          cases h
          exact regD_ok hS hN hX hl hd hops hI1 hG1 hT1 hz hn hX.mixed fun a' w' hp => .of_ops trivial hp
        · simp only [hd, Bool.false_eq_true, if_false] at h
          unfold fused at h
          split at h
          case h_2 => simp [evC] at h
          split at h
          case h_2 => simp [evC] at h
          rename_i dd TT zz mm vv hfa
          simp only at h
          split at h
          case isFalse => simp [evC] at h
          rename_i hk
          rw [Bool.and_eq_true] at hk
          simp only [evC] at h
          split at h <;> try (cases h; done)
          rename_i e2 s2 hops
          cases h
          exact regF_ok hS hN hX hl (fuse_of hfa hk.2) hk.1 hops hI1 hG1 hT1 hz hn hX.mixed fun a' w' hp => .of_ops trivial hp
      | false =>
        simp only [Bool.false_eq_true, if_false, evC] at h
        split at h <;> try (cases h; done)
        rename_i e2 s2 hops
        cases h
        refine wpIn_region ?_
        rw [show List.range ops.size = List.range' 0 (ops.size - 0) by simp [List.range_eq_range']]
        exact ops_ok hS hN hX ops.toList 0 (by simp) hl hops hI1 hG1 hT1 hz fun a' w' hp => .of_ops trivial hp
    · simp [evC] at h
  | .seq c d, e, s, x, e', s', pops, n, hn, h, g, w, rd, a, hr, hI, hG, hT, hz => by
    refine ⟨?_, fun b hb => by cases hb⟩
    have hr1 : rd.isSome = true → noRf c = true := fun hh => by have := hr hh; simp only [noRf, Bool.and_eq_true] at this; exact this.1
    have hr2 : rd.isSome = true → noRf d = true := fun hh => by have := hr hh; simp only [noRf, Bool.and_eq_true] at this; exact this.2
    simp only [compC, evC] at h
    cases hc : evC self (compC P gt pops n c) e s with
    | none => rw [hc] at h; cases h
    | some t =>
      obtain ⟨x1, e1, s1⟩ := t
      rw [hc] at h
      refine wpIn_seq (wpIn_mono (code_ok hS hN hX c hn hc hr1 hI hG hT hz).1 ?_)
      rintro ex a1 w1 hp
      cases x1 with
      | n =>
        simp only at h
        obtain ⟨hex, hsz, ⟨g1, hI1, hL1, hT1, hE1⟩, hd1, hd2⟩ := hp
        cases ex <;> simp only [ExRel] at hex
        simp only [Exit.then]
        exact wpIn_mono (code_ok hS hN hX d hn h hr2 hI1 (hG.mono hL1) hT1 (by rw [hsz]; exact hz)).1 fun ex a' w' hp => hp.trans hL1 hE1 hsz hd1 hd2
      | x i =>
        simp only at h; cases h
        obtain ⟨hex, _⟩ := id hp
        cases ex <;> simp only [ExRel] at hex
        exact hp
      | r =>
        simp only at h; cases h
        obtain ⟨hex, _⟩ := id hp
        cases ex <;> simp only [ExRel] at hex
        exact hp
  | .cond o c d, e, s, x, e', s', pops, n, hn, h, g, w, rd, a, hr, hI, hG, hT, hz => by
    refine ⟨?_, fun b hb => by cases hb⟩
    have hr1 : rd.isSome = true → noRf c = true := fun hh => by have := hr hh; simp only [noRf, Bool.and_eq_true] at this; exact this.1
    have hr2 : rd.isSome = true → noRf d = true := fun hh => by have := hr hh; simp only [noRf, Bool.and_eq_true] at this; exact this.2
    simp only [compC] at h
    split at h
    · rename_i cx hcx
      have hv := cvX_ok hG hT hcx
      simp only [evC] at h
      split at h <;> try (cases h; done)
      · rename_i hb
        rw [hb] at hv; simp only [V] at hv
        exact wpIn_cond_true hv (code_ok hS hN hX c hn h hr1 hI hG hT hz).1
      · rename_i hb
        rw [hb] at hv; simp only [V] at hv
        exact wpIn_cond_false hv (code_ok hS hN hX d hn h hr2 hI hG hT hz).1
    · simp [evC] at h
  | .block bi c, e, s, x, e', s', pops, n, hn, h, g, w, rd, a, hr, hI, hG, hT, hz => by
    refine ⟨?_, fun b hb => by cases hb⟩
    have hr1 : rd.isSome = true → noRf c = true := fun hh => by have := hr hh; simp only [noRf] at this; exact this
    simp only [compC, evC] at h
    cases hc : evC self (compC P gt pops n c) e s with
    | none => rw [hc] at h; cases h
    | some t =>
      obtain ⟨x1, e1, s1⟩ := t
      rw [hc] at h
      refine wpIn_block (wpIn_mono (code_ok hS hN hX c hn hc hr1 hI hG hT hz).1 ?_)
      rintro ex a1 w1 hp
      obtain ⟨hex, _⟩ := id hp
      cases x1 with
      | n =>
        simp only at h; cases h
        cases ex <;> simp only [ExRel] at hex
        exact hp
      | r =>
        simp only at h; cases h
        cases ex <;> simp only [ExRel] at hex
        exact hp
      | x i =>
        simp only at h
        cases ex <;> simp only [ExRel] at hex
        subst hex
        simp only [Exit.inBlock]
        split at h
        · rename_i hi; cases h
          rw [if_pos hi]; exact hp.other trivial
        · rename_i hi; cases h
          rw [if_neg hi]; exact hp
  | .loop c, e, s, x, e', s', pops, n, hn, h, g, w, rd, a, hr, hI, hG, hT, hz => by
    have hr1 : rd.isSome = true → noRf c = true := fun hh => by have := hr hh; simp only [noRf] at this; exact this
    have key : LoopFrom (fence rd) 0 P c (CodePost P gt g s w rd a x e' s') a w := by
      simp only [compC, evC] at h
      cases hc : evC self (compC P gt pops n c) e s with
      | none => rw [hc] at h; cases h
      | some t =>
        obtain ⟨x1, e1, s1⟩ := t
        rw [hc] at h
        refine loopFrom_step (wpIn_mono (code_ok hS hN hX c hn hc hr1 hI hG hT hz).1 ?_)
        rintro ex a1 w1 hp
        cases x1 with
        | n =>
          simp only at h
          obtain ⟨hex, hsz, ⟨g1, hI1, hL1, hT1, hE1⟩, hd1, hd2⟩ := hp
          cases ex <;> simp only [ExRel] at hex
          simp only [Exit.then]
          have := (hS.code _ _ _ _ _ _ h n pops (.loop c) hn rfl g1 w1 rd a1 hr hI1 (hG.mono hL1) hT1 (by rw [hsz]; exact hz)).2 c rfl
          exact this.mono fun ex a' w' hp => hp.trans hL1 hE1 hsz hd1 hd2
        | x i =>
          simp only at h; cases h
          obtain ⟨hex, _⟩ := id hp
          cases ex <;> simp only [ExRel] at hex
          exact hp
        | r =>
          simp only at h; cases h
          obtain ⟨hex, _⟩ := id hp
          cases ex <;> simp only [ExRel] at hex
          exact hp
    exact ⟨loopFrom_wp key, fun b hb => by cases hb; exact key⟩
  | .rangeFunc f ps c d, e, s, x, e', s', pops, n, hn, h, g, w, rd, a, hr, hI, hG, hT, hz => by
    refine ⟨?_, fun b hb => by cases hb⟩
    cases rd with
    | some r => have := hr rfl; simp [noRf] at this
    | none =>
      simp only [compC] at h
      split at h
      · rename_i fx hfx
        split at h
        · rename_i hcond
          simp only [Bool.and_eq_true, List.all_eq_true, Nat.blt_eq] at hcond
          exact rf_ok hS hN hI hG hT hz hn hfx hcond.1.1 hcond.1.2 hcond.2 h
        · simp [evC] at h
      · simp [evC] at h
  | .exit id, e, s, x, e', s', pops, n, hn, h, g, w, rd, a, hr, hI, hG, hT, hz => by
    simp only [compC, evC] at h; cases h
    exact ⟨wpIn_exit (.here rfl hI hT), fun b hb => by cases hb⟩
  | .ret, e, s, x, e', s', pops, n, hn, h, g, w, rd, a, hr, hI, hG, hT, hz => by
    simp only [compC, evC] at h; cases h
    exact ⟨wpIn_ret (.here trivial hI hT), fun b hb => by cases hb⟩
  | .scope c, e, s, x, e', s', pops, n, hn, h, g, w, rd, a, hr, hI, hG, hT, hz => by
    refine ⟨?_, fun b hb => by cases hb⟩
    have hr1 : rd.isSome = true → noRf c = true := fun hh => by have := hr hh; simp only [noRf] at this; exact this
    simp only [compC] at h
    refine wpIn_scope (code_ok hS hN hX c hn h hr1 hI hG hT hz).1 ?_
    rintro l a1 w1 ⟨hex, _⟩
    cases x <;> simp only [ExRel] at hex
  | .goto _, _, _, _, _, _, _, _, _, h, _, _, _, _, _, _, _, _, _ => by simp [compC, evC] at h
  | .refuse _, _, _, _, _, _, _, _, _, h, _, _, _, _, _, _, _, _, _ => by simp [compC, evC] at h
end
end Go.Proofs.YtfaodjpibdhdjaaDoor.Am
