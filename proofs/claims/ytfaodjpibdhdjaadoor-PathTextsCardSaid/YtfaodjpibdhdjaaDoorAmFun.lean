/-
  A function's call: what the abstract machine does, the model's call does.
-/
import Derived.Test.YtfaodjpibdhdjaaDoorAmCut
import Derived.Test.YtfaodjpibdhdjaaDoorAmCode3
import Derived.Test.YtfaodjpibdhdjaaDoorAmRow
set_option linter.all false
set_option linter.unusedVariables false
set_option linter.unusedSimpArgs false
set_option linter.unusedSectionVars false
set_option linter.constructorNameAsVariable false
namespace Go.Proofs.YtfaodjpibdhdjaaDoor.Am
section
variable {P : Program} {gt : Nat → Option (List AV)} {prog : Nat → Option Fun} {self : Self} {g : G} {s s' : St} {w w0 w1 : World} {e : Tr}

def Gone (w0 w1 w2 : World) : Prop := w2.heap.size = w1.heap.size ∧ (∀ b : Nat, w2.heap[b]? = w1.heap[b]? ∨ (w0.heap.size ≤ b ∧ ∃ d, w1.heap[b]? = some (.deferred d))) ∧ (w2.os = w1.os ∧ w2.output = w1.output)

theorem leaves_marks {F : Fence} {n : Nat} {fn : Func} {tmps : Array Value} {R : Ending → World → Prop} (h : ∀ w2, Gone w0 w1 w2 → ∃ v, (results fn tmps).run P w2 = .ok v w2 ∧ R (.returned v) w2) :
    ∀ (ds : List Deferred) (w : World), Gone w0 w1 w → (∀ d ∈ ds, ∃ r, d = { target := .collected r, args := #[] } ∧ w0.heap.size ≤ r ∧ w.heap[r]? = some (.deferred (some []))) → ds.Pairwise (fun d d' => d ≠ d') →
      LeavesInM F n P fn tmps R ds .returning w
  | [], w, hg, _, _ => h w hg
  | d :: ds, w, hg, hd, hp => by
    obtain ⟨r, rfl, hr, hw⟩ := hd d (by simp)
    have hw' : Gone w0 w1 { w with heap := w.heap.setIfInBounds r (.deferred none) } := by
      refine ⟨by simpa using hg.1, fun b => ?_, hg.2.2⟩
      by_cases hb : b = r
      · subst hb
        refine .inr ⟨hr, ?_⟩
        rcases hg.2.1 b with h1 | ⟨_, h1⟩
        · exact ⟨_, by rw [← h1]; exact hw⟩
        · exact h1
      · simp only [Array.getElem?_setIfInBounds]; rw [if_neg (Ne.symm hb)]; exact hg.2.1 b
    have hp' := List.pairwise_cons.1 hp
    refine ⟨by simp, .inl ⟨r, { w with heap := w.heap.setIfInBounds r (.deferred none) }, rfl, ?_, ?_⟩⟩
    · simp [Instr.takeDeferred, getObj, setObj, Sem.run, hw]
    · refine leaves_marks h ds _ hw' (fun d' hd' => ?_) hp'.2
      obtain ⟨r', rfl, hr', hw'⟩ := hd d' (by simp [hd'])
      refine ⟨r', rfl, hr', ?_⟩
      have hne : r ≠ r' := by
        intro hh; subst hh
        exact hp'.1 _ hd' rfl
      simp only [Array.getElem?_setIfInBounds]; rw [if_neg hne]; exact hw'

theorem initT_get : ∀ (l : List AV) (n : Nat) (t : Tr), n + l.length < 1023 → ∀ i, (initT n l t).get i = if n ≤ i then (match l[i - n]? with | some v => v | none => t.get i) else t.get i
  | [], n, t, _, i => by simp [initT]
  | v :: l, n, t, h, i => by
    simp only [List.length_cons] at h
    rw [initT, initT_get l (n + 1) _ (by omega), get_set 10 t n v (by omega)]
    by_cases h1 : i = n
    · subst h1
      rw [if_neg (by omega), if_pos rfl, if_pos (Nat.le_refl _)]
      simp
    · by_cases h2 : n + 1 ≤ i
      · have h3 : i - n = (i - (n + 1)) + 1 := by omega
        rw [if_pos h2, if_neg h1, if_pos (by omega), h3, List.getElem?_cons_succ]
      · rw [if_neg h2, if_neg h1, if_neg (by omega)]

theorem VL_at : ∀ {l : List AV} {vs : List Value}, VL g s w l vs → ∀ (i : Nat), match l[i]?, vs[i]? with
    | some a, some v => V g s w a v
    | none, none => True
    | _, _ => False
  | [], _, h, i => by simp only [VL] at h; subst h; simp
  | a :: l, _, h, i => by
    simp only [VL] at h
    obtain ⟨v, r, rfl, h1, h2⟩ := h
    cases i with
    | zero => simpa using h1
    | succ i => simpa using VL_at h2 i

theorem VT_init {args : List AV} {vs : List Value} (hv : VL g s w args vs) {n : Nat} (hn : n < 1000) (ha : args.length ≤ n) : VT g s w (initT 0 args .e) (vs.toArray ++ Array.replicate (n - vs.toArray.size) Go.undef) ∧
    (vs.toArray ++ Array.replicate (n - vs.toArray.size) Go.undef).size = n := by
  have hl := hv.length
  refine ⟨⟨by simp; omega, fun t => ?_⟩, by simp; omega⟩
  rw [initT_get args 0 .e (by omega)]
  rw [if_pos (Nat.zero_le _), Nat.sub_zero]
  have := VL_at hv t
  rw [Array.getD_eq_getD_getElem?]
  cases h1 : args[t]? with
  | some a =>
    cases h2 : vs[t]? with
    | none => rw [h1, h2] at this; exact this.elim
    | some v =>
      rw [h1, h2] at this
      have hlt : t < vs.length := (List.getElem?_eq_some_iff.1 h2).1
      rw [Array.getElem?_append_left (by simpa using hlt)]
      simpa [h2] using this
  | none =>
    cases h2 : vs[t]? with
    | some v => rw [h1, h2] at this; exact this.elim
    | none =>
      have hge : vs.length ≤ t := by simpa using h2
      rw [Array.getElem?_append_right (by simpa using hge)]
      have : ((Array.replicate (n - vs.toArray.size) Go.undef)[t - vs.toArray.size]?).getD Go.undef = Go.undef := by
        rw [Array.getElem?_replicate]; split <;> rfl
      rw [this]
      simp [Tr.get, undef, Go.undef, V, VL]

theorem ld_addr {agg : Bool} {n : Nat} {x r : AV} {av : Value} (hv : V g s w x av) (h : ldA s agg n x = some r) : ∃ ad, av = .pointer (some ad) := by
  unfold ldA at h
  split at h
  · simp only [V] at hv; exact ⟨_, hv.2⟩
  · simp only [V] at hv; obtain ⟨b, o, cs, he, _⟩ := hv; exact ⟨_, he⟩
  · cases h

theorem pubA_ok {v r : AV} {u : Value} (hI : Inv (CRof P gt) g s w) (hv : V g s w v u) (h : pubA s v = some (r, s')) : Good (CRof P gt) g s w s' r u w := by
  unfold pubA at h
  split at h
  · split at h <;> try (cases h; done)
    rename_i l s1 hp
    cases h
    simp only [V] at hv
    obtain ⟨vs, h1, rfl⟩ := hv
    obtain ⟨g1, hI1, hL1, hV1, hE1⟩ := frzL_ok hI h1 hp
    exact ⟨g1, hI1, hL1, by simp only [V]; exact ⟨vs, hV1, rfl⟩, hE1⟩
  · exact frz_ok hI hv h

def resFn (tmps : Array Value) : ResultVar → Sem Value
  | .tmp t => pure (tmps.getD t Go.undef)
  | .cell a t => do loadVar t (← asAddr (tmps.getD a Go.undef))

theorem results_ok : ∀ {rs : List ResultVar} {res : List (Nat × Option (Bool × Nat))}, compR P rs = some res → ∀ {g : G} {s s' : St} {tmps : Array Value} {vs : List AV}, Inv (CRof P gt) g s w → VT g s w e tmps → resOf e s res = some (vs, s') →
    ∃ us, (rs.mapM (resFn tmps)).run P w = .ok us w ∧ GoodL (CRof P gt) g s w s' vs us w
  | [], res, hc, g, s, s', tmps, vs, hI, hT, h => by
    simp only [compR] at hc; cases hc
    simp only [resOf] at h; cases h
    exact ⟨[], by simp, g, hI, Le.refl _ _ _, by simp [VL], Esc.refl _⟩
  | .tmp t :: rs, res, hc, g, s, s', tmps, vs, hI, hT, h => by
    simp only [compR] at hc
    split at hc <;> try (cases hc; done)
    rename_i res' hres
    cases hc
    simp only [resOf] at h
    split at h <;> try (cases h; done)
    rename_i v s1 hp
    split at h <;> try (cases h; done)
    rename_i r s2 hr
    cases h
    obtain ⟨g1, hI1, hL1, hV1, hE1⟩ := pubA_ok hI (hT.2 t) hp
    obtain ⟨us, e1, g2, hI2, hL2, hV2, hE2⟩ := results_ok hres hI1 (VT_mono hL1 hT) hr
    refine ⟨tmps.getD t Go.undef :: us, ?_, g2, hI2, hL1.trans hL2, by simp only [VL]; exact ⟨_, _, rfl, V_mono hL2 _ _ hV1, hV2⟩, Esc.trans hL1.nb hE1 hE2⟩
    simp only [List.mapM_cons, resFn, Sem.run_bind, Sem.run_pure, Result.andThen_ok, e1]
  | .cell t ty :: rs, res, hc, g, s, s', tmps, vs, hI, hT, h => by
    simp only [compR] at hc
    split at hc <;> try (cases hc; done)
    rename_i res' ag n hres hag hn
    cases hc
    simp only [resOf] at h
    split at h <;> try (cases h; done)
    rename_i v hld
    split at h <;> try (cases h; done)
    rename_i v' s1 hp
    split at h <;> try (cases h; done)
    rename_i r s2 hr
    cases h
    obtain ⟨u, e0, hu⟩ := ld_ok hI hag hn (hT.2 t) hld
    obtain ⟨ad, had⟩ := ld_addr (hT.2 t) hld
    obtain ⟨g1, hI1, hL1, hV1, hE1⟩ := pubA_ok hI hu hp
    obtain ⟨us, e1, g2, hI2, hL2, hV2, hE2⟩ := results_ok hres hI1 (VT_mono hL1 hT) hr
    refine ⟨u :: us, ?_, g2, hI2, hL1.trans hL2, ?_, Esc.trans hL1.nb hE1 hE2⟩
    · rw [had] at e0
      have e2 : (loadVar ty ad).run P w = .ok u w := by simpa [Instr.loadAt, Instr.sureAddr] using e0
      have e3 : (asAddr (tmps.getD t Go.undef)).run P w = .ok ad w := by rw [had]; simp [asAddr]
      simp only [List.mapM_cons, resFn, Sem.run_bind, e3, Sem.run_pure, Result.andThen_ok, e1, e2]
    · simp only [VL]
      exact ⟨_, _, rfl, V_mono hL2 _ _ hV1, hV2⟩
end
end Go.Proofs.YtfaodjpibdhdjaaDoor.Am
