/-
  Code: what the abstract machine does, the model's code does.
-/
import Derived.Test.YtfaodjpibdhdjaaDoorAmDraw5
set_option linter.all false
set_option linter.unusedVariables false
set_option linter.unusedSimpArgs false
set_option linter.unusedSectionVars false
set_option linter.constructorNameAsVariable false
namespace Go.Proofs.YtfaodjpibdhdjaaDoor.Am
section
variable {rd : Option Nat} {P : Program} {gt : Nat → Option (List AV)} {prog : Nat → Option Fun} {self : Self} {g g1 : G} {s s1 s' : St} {w w1 w' : World} {e e' : Tr} {a a1 a' : Act} {x : Ex} {xx : Exit}

theorem CodePost.trans (hL : Le g s w g1 s1 w1) (hE : Esc s s1) (hsz : a1.tmps.size = a.tmps.size) (hr : rd.isSome = true → a1.defers = a.defers)
    (hd : ∃ ds, a1.defers = ds ++ a.defers ∧ (∀ d ∈ ds, ∃ r, d = { target := .collected r, args := #[] } ∧ w.heap.size ≤ r ∧ w1.heap[r]? = some (.deferred (some []))) ∧ ds.Pairwise (fun d d' => d ≠ d'))
    (h : CodePost P gt g1 s1 w1 rd a1 x e' s' xx a' w') : CodePost P gt g s w rd a x e' s' xx a' w' := by
  obtain ⟨h1, h2, ⟨g', hI', hL', hT', hE'⟩, h4, ds', k1, k2, k3⟩ := h
  obtain ⟨ds, m1, m2, m3⟩ := hd
  refine ⟨h1, by rw [h2, hsz], ⟨g', hI', hL.trans hL', hT', Esc.trans hL.nb hE hE'⟩, fun hh => by rw [h4 hh, hr hh], ds' ++ ds, by rw [k1, m1, List.append_assoc], ?_, ?_⟩
  · intro d hd
    rcases List.mem_append.1 hd with hd | hd
    · obtain ⟨r, q1, q2, q3⟩ := k2 d hd
      exact ⟨r, q1, Nat.le_trans hL.size q2, q3⟩
    · obtain ⟨r, q1, q2, q3⟩ := m2 d hd
      exact ⟨r, q1, q2, hL'.dfr r q3⟩
  · rw [List.pairwise_append]
    refine ⟨k3, m3, fun d hd d' hd' heq => ?_⟩
    obtain ⟨r, q1, q2, q3⟩ := k2 d hd
    obtain ⟨r', p1, p2, p3⟩ := m2 d' hd'
    subst heq
    rw [q1] at p1
    have : r = r' := by injection p1 with p1; injection p1
    subst this
    rcases Array.getElem?_eq_some_iff.1 p3 with ⟨hlt, _⟩
    omega

theorem CodePost.of_ops {n : Act} (hex : ExRel x xx) (h : OpsPost P gt g s w a e' s' n w') : CodePost P gt g s w rd a x e' s' xx n w' := by
  obtain ⟨h1, h2, h3⟩ := h
  exact ⟨hex, h1, h3, fun _ => h2, [], by simp [h2], by simp, List.Pairwise.nil⟩

theorem CodePost.here (hex : ExRel x xx) (hI : Inv (CRof P gt) g s w) (hT : VT g s w e a.tmps) : CodePost P gt g s w rd a x e s xx a w :=
  .of_ops hex ⟨rfl, rfl, g, hI, Le.refl _ _ _, hT, Esc.refl _⟩

theorem CodePost.other {ex2 : Exit} {x2 : Ex} (hex : ExRel x2 ex2) (h : CodePost P gt g s w rd a x e' s' xx a' w') : CodePost P gt g s w rd a x2 e' s' ex2 a' w' :=
  ⟨hex, h.2⟩

theorem stepR_scope {b : Frame} {a : Act} {k : List Item} {cs : List Frame} {w : World} {c : Code} : step P (lone (b.atR a (.code (.scope c) :: k)) cs w) = .next (lone (b.atR a (.code c :: .inScope c :: k)) cs w) :=
  step_lone_go (by simp [stepG, stepG.exec, Frame.atR])
theorem stepR_inScope {b : Frame} {a : Act} {k : List Item} {cs : List Frame} {w : World} {c : Code} : step P (lone (b.atR a (.inScope c :: k)) cs w) = .next (lone (b.atR a k) cs w) :=
  step_lone_go (by simp [stepG, stepG.exec, Frame.atR])
/-- A scope through which the run goes without a jump. -/
theorem wpIn_scope {c : Code} {F : Fence} {n : Nat} {Q : Exit → Act → World → Prop} (h : c.wpIn F n P Q a w) (hg : ∀ l a w, ¬ Q (.goto l) a w) : (Code.scope c).wpIn F n P Q a w := by
  intro b k cs hro hb hr
  have h0 : (lone (b.atR a (.code (.scope c) :: k)) cs w).fenced P F := fenced_calm hb hr rfl
  obtain ⟨e, a₁, w₁, hq, harr⟩ := h b (.inScope c :: k) cs hro hb hr
  cases e with
  | normal => exact ⟨.normal, a₁, w₁, hq, .head h0 stepR_scope (StepsIn.trans harr (.one (fenced_calm hb hr rfl) stepR_inScope))⟩
  | exit id =>
    have hx : exitTo id (.inScope c :: k) = exitTo id k := by simp [exitTo]
    exact ⟨.exit id, a₁, w₁, hq, fun k' hk => .head h0 stepR_scope (harr.1 k' (by rw [hx]; exact hk)),
      fun hr' hk => let ⟨k₁, h1, h2⟩ := harr.2 hr' (by rw [hx]; exact hk); ⟨k₁, h1, .head h0 stepR_scope h2⟩⟩
  | goto l => exact absurd hq (hg _ _ _)
  | ret => exact ⟨_, a₁, w₁, hq, .of_steps (.one h0 stepR_scope) harr⟩
  | panic ch => exact ⟨_, a₁, w₁, hq, .of_steps (.one h0 stepR_scope) harr⟩
  | outgrown => exact ⟨_, a₁, w₁, hq, .of_steps (.one h0 stepR_scope) harr⟩
theorem loopFrom_wp {b : Code} {F : Fence} {n : Nat} {Q : Exit → Act → World → Prop} (h : LoopFrom F n P b Q a w) : (Code.loop b).wpIn F n P Q a w := by
  intro fr k cs hro hb hr
  obtain ⟨e, a', w', q, harr⟩ := h fr k cs hro hb hr
  exact ⟨e, a', w', q, .of_steps (.one (fenced_calm hb hr rfl) stepR_loop) harr⟩

theorem loopFrom_step {b : Code} {F : Fence} {n : Nat} {Q : Exit → Act → World → Prop} (h : b.wpIn F n P (Exit.then (fun a' w' => LoopFrom F n P b Q a' w') Q) a w) : LoopFrom F n P b Q a w := by
  intro fr k cs hro hb hr
  obtain ⟨e, a₁, w₁, hq, harr⟩ := h fr (.inLoop b :: k) cs hro hb hr
  cases e with
  | normal =>
    obtain ⟨e₂, a₂, w₂, hq₂, harr₂⟩ := hq fr k cs hro hb hr
    exact ⟨e₂, a₂, w₂, hq₂, .of_steps (StepsIn.trans harr (.one (fenced_calm hb hr rfl) stepR_inLoop)) harr₂⟩
  | exit id => exact ⟨_, a₁, w₁, hq, .pass (x := .inLoop b) rfl (fun _ _ => .inl (by simp)) harr⟩
  | goto l => exact ⟨_, a₁, w₁, hq, .pass (x := .inLoop b) rfl (fun _ _ => .inl (by simp)) harr⟩
  | ret => exact ⟨_, a₁, w₁, hq, .pass (x := .inLoop b) rfl (fun _ _ => .inl (by simp)) harr⟩
  | panic ch => exact ⟨_, a₁, w₁, hq, .pass (x := .inLoop b) rfl (fun _ _ => .inl (by simp)) harr⟩
  | outgrown => exact ⟨_, a₁, w₁, hq, .pass (x := .inLoop b) rfl (fun _ _ => .inl (by simp)) harr⟩

theorem LoopFrom.mono {b : Code} {F : Fence} {n : Nat} {Q Q' : Exit → Act → World → Prop} (h : LoopFrom F n P b Q a w) (hq : ∀ e a w, Q e a w → Q' e a w) : LoopFrom F n P b Q' a w := by
  intro fr k cs hro hb hr
  obtain ⟨e, a', w', q, harr⟩ := h fr k cs hro hb hr
  exact ⟨e, a', w', hq _ _ _ q, harr⟩

theorem endR_cases {l : Nat} {r : Ex × Tr × St} (h : endR s l e = some r) : ∃ st pend tm ps x y, s.box? l = some (.loop st pend tm ps x y) ∧ st ≠ 1 ∧ r.2 = (e, s.setBox l .used) ∧
    ((pend = none ∧ r.1 = .n) ∨ (∃ id, pend = some (.exit id) ∧ r.1 = .x id) ∨ (pend = some .ret ∧ r.1 = .r)) := by
  unfold endR at h
  split at h <;> try (cases h; done)
  rename_i st p tm ps x y hb
  split at h <;> try (cases h; done)
  rename_i hst
  split at h <;> try (cases h; done)
  · cases h; exact ⟨_, _, _, _, _, _, hb, hst, rfl, .inl ⟨rfl, rfl⟩⟩
  · cases h; exact ⟨_, _, _, _, _, _, hb, hst, rfl, .inr (.inl ⟨_, rfl, rfl⟩)⟩
  · cases h; exact ⟨_, _, _, _, _, _, hb, hst, rfl, .inr (.inr ⟨rfl, rfl⟩)⟩

theorem LS_busy {st : Nat} (h : LS st .busy) : st = 1 := by
  rcases st with _ | _ | _ | _ <;> first | rfl | exact h.elim

/-- A range over a function. -/
theorem rf_ok (hS : SelfOk P gt self) (hN : NamesOk P) (hI : Inv (CRof P gt) g s w) (hG : GT gt g w) (hT : VT g s w e a.tmps) {n : Nat} (hn : a.tmps.size = n) (hn' : n < 1000) {pops : List Nat} {f : Operand} {ps : Array Tmp} {x0 y0 : Code} {fx : X}
    (hf : cvX gt f = some fx) (hx : noRf x0 = true) (hy : noRf y0 = true) (hps : ∀ p ∈ ps.toList, p < n)
    (h : evC self (.rf fx ps.toList (compC P gt pops n x0) (compC P gt pops n y0)) e s = some (x, e', s')) :
    (Code.rangeFunc f ps x0 y0).wpIn (fence none) 0 P (CodePost P gt g s w none a x e' s') a w := by
  simp only [evC] at h
  split at h <;> try (cases h; done)
  rename_i fn caps hfx
  split at h <;> try (cases h; done)
  rename_i rv s2 hcall
  have hv := cvX_ok hG hT hf
  rw [hfx] at hv
  simp only [V] at hv
  obtain ⟨us, hu1, hu2⟩ := hv
  obtain ⟨F, b, hF, hb⟩ := hS.body _ _ _ _ _ hcall
  refine wpIn_rangeFunc fun fid _ => ?_
  -- the block of deferred calls, and the record
  have hI1 := Inv.newRow hI 0 (.deferred (some []))
  have hL1 := Le.newRow hI 0 (.deferred (some []))
  have hsz1 : (w.alloc (.deferred (some []))).heap.size = w.heap.size + 1 := by simp
  obtain ⟨rec, hrec⟩ : ∃ rec : Loop, rec = { state := .ready, pending := none, fn := fid, tmps := a.tmps, params := ps, assign := x0, body := y0, defers := w.heap.size } := ⟨_, rfl⟩
  have hL2 := Le.newBox hI1 (.loop 0 none e ps.toList (compC P gt pops n x0) (compC P gt pops n y0)) (.loop rec)
  have hI2 := Inv.newBox hI1 (.loop 0 none e ps.toList (compC P gt pops n x0) (compC P gt pops n y0)) (.loop rec) (by
    refine ⟨rec, ?_, ?_⟩
    · have h := heap_alloc_new (w.alloc (.deferred (some []))) (.loop rec)
      exact h
    · subst hrec
      exact ⟨trivial, trivial, VT_mono (hL1.trans hL2) hT, ⟨rfl, by rw [hn]; exact hps⟩, ⟨by rw [hn]; exact hn', hx, pops, by rw [hn]⟩, ⟨by rw [hn]; exact hn', hy, pops, by rw [hn]⟩⟩)
  have hL12 := hL1.trans hL2
  obtain ⟨G2, hG2⟩ : ∃ G2, G2 = (g.newRow w 0).newBox s (w.alloc (.deferred (some []))) := ⟨_, rfl⟩
  rw [← hG2] at hI2 hL2 hL12
  have hbx : G2.bx s.nb = w.heap.size + 1 := by rw [hG2]; simp [G.newBox]
  obtain ⟨W2, hW2⟩ : ∃ W2, W2 = (w.alloc (.deferred (some []))).alloc (.loop rec) := ⟨_, rfl⟩
  rw [← hW2] at hI2 hL2 hL12
  have hargs : VL G2 (s.new (.loop 0 none e ps.toList (compC P gt pops n x0) (compC P gt pops n y0))) W2 (.yld s.nb :: caps) (Value.func (.yield (w.heap.size + 1)) #[] #[] :: us) := by
    simp only [VL]
    refine ⟨_, _, rfl, ?_, VL_mono hL12 _ _ hu1⟩
    simp only [V]
    exact ⟨by simp [St.new], by rw [hbx]⟩
  have hD : W2.heap[w.heap.size]? = some (.deferred (some [])) := by
    rw [hW2]
    exact heap_alloc_some (heap_alloc_new w _)
  refine ⟨w.heap.size + 1, [{ target := .collected w.heap.size, args := #[] }], W2, { target := .fn (.func fn) us.toArray, args := #[Value.func (.yield (w.heap.size + 1)) #[] #[]] }, W2, fn, #[Value.func (.yield (w.heap.size + 1)) #[] #[]] ++ us.toArray, W2, ?_, ?_, fun _ _ => trivial, ?_, (fun hh => by cases hh), ?_⟩
  · have : (fence none).round = none := rfl
    rw [this]
    simp [Instr.enterLoop, hW2, hrec]
  · have e0 : a.eval (.const (.func (.yield (w.heap.size + 1)) #[] #[])) = .func (.yield (w.heap.size + 1)) #[] #[] := rfl
    simp [resolve, hu2, Deferred.ofValue, e0]
  · simpa [invoke] using run_callFunc (w := W2) hN hF hb _
  · have hc := hS.call _ _ _ _ _ hcall G2 W2 _ hI2 (hG.mono hL12) hargs
    have e1 : (Value.func (.yield (w.heap.size + 1)) #[] #[] :: us).toArray = #[Value.func (.yield (w.heap.size + 1)) #[] #[]] ++ us.toArray := by apply Array.toList_inj.1; simp
    rw [e1] at hc
    refine calls_fence (rd := none) (n := 0 - 1) (hc.mono ?_)
    rintro en w3 ⟨v, rfl, g3, hI3, hL3, hV3, hE3⟩
    obtain ⟨st, pend, tm, ps', x', y', hb3, hst, hr2, hr⟩ := endR_cases h
    obtain ⟨L, k1, k2, k3, k4, k5, k6, k7, k8, k9⟩ := loop_box hI3 hb3
    have hbx3 : g3.bx s.nb = w.heap.size + 1 := by rw [hL3.bx s.nb (by simp [St.new]), hbx]
    rw [hbx3] at k1 k8 k9
    have hb3' : s2.box? s.nb = some (.loop st pend tm ps' x' y') := hb3
    obtain ⟨m1, m2, m3⟩ := usedLoop hI3 hb3' (by rw [hbx3]; exact k1) { L with state := .exhausted }
    rw [hbx3] at m1 m2
    have k9' := k9 { L with state := .exhausted }
    obtain ⟨W4, hW4⟩ : ∃ W4 : World, { w3 with heap := w3.heap.setIfInBounds (w.heap.size + 1) (.loop { L with state := .exhausted }) } = W4 := ⟨_, rfl⟩
    rw [hW4] at m1 m2 k9'
    simp only [rangePost]
    refine ⟨L.pending, W4, ?_, ?_⟩
    · have hbusy : ¬ ((L.state == LoopState.busy) = true) := by
        intro hh
        cases hs : L.state <;> rw [hs] at hh k2
        · cases hh
        · exact hst (LS_busy k2)
        · cases hh
        · cases hh
      simp only [Instr.endLoop, Sem.run_bind, k8, Result.andThen_ok, k9]
      rw [if_neg hbusy]
      simp only [Sem.run_bind, k9', Result.andThen_ok, Sem.run_pure]
    · have hLe := (hL12.trans hL3).trans m2
      have hpost : ∀ {X : Ex} {EX : Exit}, ExRel X EX → CodePost P gt g s w none a X e (s2.setBox s.nb .used) EX { a with defers := [{ target := .collected w.heap.size, args := #[] }] ++ a.defers } W4 := by
        intro X EX hX
        refine ⟨hX, rfl, ⟨g3, m1, hLe, VT_mono hLe hT, Esc.trans (hL12.trans hL3).nb (Esc.trans hL12.nb (esc_new s _) hE3) m3⟩, fun hh => (by cases hh), [{ target := .collected w.heap.size, args := #[] }], rfl, ?_, by simp⟩
        intro d hd
        simp only [List.mem_singleton] at hd
        exact ⟨_, hd, Nat.le_refl _, m2.dfr _ (hL3.dfr _ hD)⟩
      obtain ⟨hr2a, hr2b⟩ : e' = e ∧ s' = s2.setBox s.nb .used := by
        simp only [Prod.mk.injEq] at hr2; exact hr2
      subst hr2a hr2b
      rcases hr with ⟨rfl, rfl⟩ | ⟨id, rfl, rfl⟩ | ⟨rfl, rfl⟩
      · cases hp : L.pending with
        | none => exact @hpost .n .normal trivial
        | some c => rw [hp] at k3; simp [PR] at k3
      · cases hp : L.pending with
        | none => rw [hp] at k3; simp [PR] at k3
        | some c =>
          rw [hp] at k3
          cases c <;> simp [PR] at k3
          subst k3
          exact wpIn_exit (@hpost (.x id) (.exit id) rfl)
      · cases hp : L.pending with
        | none => rw [hp] at k3; simp [PR] at k3
        | some c =>
          rw [hp] at k3
          cases c <;> simp [PR] at k3
          exact wpIn_ret (@hpost .r .ret trivial)
end
end Go.Proofs.YtfaodjpibdhdjaaDoor.Am
