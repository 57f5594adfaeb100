/-
  Calls, regions, code, functions.
-/
import Derived.Test.YtfaodjpibdhdjaaDoorAmRun
set_option linter.all false
set_option linter.unusedVariables false
set_option linter.unusedSimpArgs false
set_option linter.unusedSectionVars false
set_option linter.constructorNameAsVariable false
namespace Go.Proofs.YtfaodjpibdhdjaaDoor.Am
section
variable {rd : Option Nat} {P : Program} {gt : Nat → Option (List AV)} {prog : Nat → Option Fun} {self : Self} {g : G} {s s' : St} {w : World} {e : Tr} {a : Act} {o : Oper} {r : AV}

/-- No function bears the name that the model takes apart. -/
def NamesOk (P : Program) : Prop := ∀ (f : Nat) (F : Func), P.funcs[f]? = some F → (F.name == "runtime.NumGoroutine") = false

theorem run_callFunc (hN : NamesOk P) {f : Nat} {F : Func} {b : Code} (hF : P.funcs[f]? = some F) (hb : F.body = some b) (args : Array Value) : (callFunc f args).run P w = .ok (.enter f args) w := by
  have hne : ¬ F.name = "runtime.NumGoroutine" := by have := hN f F hF; simpa using this
  simp [callFunc, hF, hne, hb]

theorem run_ext (hN : NamesOk P) (hX : Ctx P gt prog) {f r : Nat} {F : Func} (hF : P.funcs[f]? = some F) (hb : F.body = none) (hr : externRow F.name = some r) :
    ∃ ex, ExtOk r ex P ∧ ∀ (args : Array Value) (v : Value) (w' : World), (ex args).run P w = .ok v w' → (callFunc f args).run P w = .ok (.value v) w' := by
  obtain ⟨_, h2, ex, h3, h4⟩ := hX.ext f F r hF hb hr
  have hne : ¬ F.name = "runtime.NumGoroutine" := by have := hN f F hF; simpa using this
  refine ⟨ex, h4, fun args v w' he => ?_⟩
  simp [callFunc, hF, hne, hb, h2, h3, he]

theorem run_mnz (hN : NamesOk P) (hX : Ctx P gt prog) {f : Nat} {F : Func} (hF : P.funcs[f]? = some F) (hb : F.body = none) (hn : F.name = mnzName) {args : Array Value} {v : Value} {w' : World}
    (he : (Extern.BytealgMakeNoZero.makeNoZero F.params F.resultTypes args).run P w = .ok v w') : (callFunc f args).run P w = .ok (.value v) w' := by
  obtain ⟨h2, h3⟩ := hX.mnz f F hF hb hn
  have hne : ¬ F.name = "runtime.NumGoroutine" := by have := hN f F hF; simpa using this
  simp [callFunc, hF, hne, hb, h2, h3, he]

theorem run_ovl (hN : NamesOk P) (hX : Ctx P gt prog) {f : Nat} {F : Func} (hF : P.funcs[f]? = some F) (hb : F.body = none) (hn : isOvl F = true) {args : Array Value} {v : Value} {w' : World}
    (he : (Extern.SlicesOverlaps.overlaps F.params F.resultTypes args).run P w = .ok v w') : (callFunc f args).run P w = .ok (.value v) w' := by
  obtain ⟨h2, h3⟩ := hX.ovl f F hF hb hn
  have hne : ¬ F.name = "runtime.NumGoroutine" := by have := hN f F hF; simpa using this
  simp [callFunc, hF, hne, hb, h2, h3, he]

/-! ### Rounds -/
theorem putL_ok : ∀ {ps : List Nat} {vs : List AV} {t t' : Tr} {us : List Value} {tmps : Array Value}, VT g s w t tmps → (∀ p ∈ ps, p < tmps.size) → VL g s w vs us → putL ps vs t = some t' →
    us.length = ps.length ∧ VT g s w t' ((ps.zip us).foldl (fun tmps x => tmps.setIfInBounds x.1 x.2) tmps) ∧ ((ps.zip us).foldl (fun tmps x => tmps.setIfInBounds x.1 x.2) tmps).size = tmps.size
  | [], [], t, t', us, tmps, hT, _, hv, h => by
    simp only [putL] at h; cases h
    simp only [VL] at hv; subst hv
    exact ⟨rfl, hT, rfl⟩
  | [], _ :: _, _, _, _, _, _, _, _, h => by simp [putL] at h
  | _ :: _, [], _, _, _, _, _, _, _, h => by simp [putL] at h
  | p :: ps, v :: vs, t, t', us, tmps, hT, hp, hv, h => by
    simp only [putL] at h
    simp only [VL] at hv
    obtain ⟨u, us', rfl, h1, h2⟩ := hv
    obtain ⟨e1, e2, e3⟩ := putL_ok (VT_set hT (hp p (by simp)) h1) (fun q hq => by simpa using hp q (by simp [hq])) h2 h
    exact ⟨by simp [e1], by simpa using e2, by simpa using e3⟩

theorem loop_box (hI : Inv (CRof P gt) g s w) {l st : Nat} {pend : Option C} {tm : Tr} {ps : List Nat} {x y : C} (hb : s.box? l = some (.loop st pend tm ps x y)) :
    ∃ L : Loop, w.heap[g.bx l]? = some (.loop L) ∧ LS st L.state ∧ PR pend L.pending ∧ VT g s w tm L.tmps ∧ (L.params.toList = ps ∧ ∀ p ∈ ps, p < L.tmps.size) ∧ CRof P gt L.tmps.size L.assign x ∧ CRof P gt L.tmps.size L.body y ∧
      (Instr.getLoop (g.bx l)).run P w = .ok L w ∧ ∀ L' : Loop, (setObj (g.bx l) (.loop L')).run P w = .ok () { w with heap := w.heap.setIfInBounds (g.bx l) (.loop L') } := by
  obtain ⟨L, h1, h2, h3, h4, h5, h6, h7⟩ := hI.box l _ hb
  exact ⟨L, h1, h2, h3, h4, h5, h6, h7, by simp [Instr.getLoop, getObj, Sem.run, h1], fun L' => by simp [setObj, Sem.run, h1]⟩

theorem setLoop (hI : Inv (CRof P gt) g s w) {l st st' : Nat} {pend pend' : Option C} {tm : Tr} {ps : List Nat} {x y : C} (hb : s.box? l = some (.loop st pend tm ps x y)) {L : Loop} (hL : w.heap[g.bx l]? = some (.loop L))
    {state : LoopState} {pending : Option Code} (h1 : LS st' state) (h2 : PR pend' pending) :
    Inv (CRof P gt) g (s.setBox l (.loop st' pend' tm ps x y)) { w with heap := w.heap.setIfInBounds (g.bx l) (.loop { L with state, pending }) } ∧
    Le g s w g (s.setBox l (.loop st' pend' tm ps x y)) { w with heap := w.heap.setIfInBounds (g.bx l) (.loop { L with state, pending }) } ∧ Esc s (s.setBox l (.loop st' pend' tm ps x y)) := by
  obtain ⟨L', k1, k2, k3, k4, k5, k6, k7⟩ := hI.box l _ hb
  rw [hL] at k1
  simp only [Option.some.injEq, Obj.loop.injEq] at k1
  subst k1
  have hid := box?_lt hb
  have e1 : ({ w with heap := w.heap.setIfInBounds (g.bx l) (.loop { L with state, pending }) } : World).heap.size = w.heap.size := by simp
  have e2 : ∀ b, b ≠ g.bx l → ({ w with heap := w.heap.setIfInBounds (g.bx l) (.loop { L with state, pending }) } : World).heap[b]? = w.heap[b]? := fun b hb => by
    simp only [Array.getElem?_setIfInBounds]; rw [if_neg (Ne.symm hb)]
  have hnd : w.heap[g.bx l]? ≠ some (.deferred (some [])) := by rw [hL]; intro hh; cases hh
  have hLe := Le.setBox (B := .loop st' pend' tm ps x y) hI hb rfl e1 e2 hnd
  refine ⟨Inv.setBox hI hb rfl _ e1 e2 hnd ⟨{ L with state, pending }, by simp [Array.getElem?_setIfInBounds, (hI.lt l hid).2], h1, h2, VT_mono hLe k4, k5, k6, k7⟩, hLe, ?_⟩
  exact esc_set hI hid (fun b hv => ⟨_, hb, hv⟩)

theorem usedLoop (hI : Inv (CRof P gt) g s w) {l st : Nat} {pend : Option C} {tm : Tr} {ps : List Nat} {x y : C} (hb : s.box? l = some (.loop st pend tm ps x y)) {L : Loop} (hL : w.heap[g.bx l]? = some (.loop L)) (L' : Loop) :
    Inv (CRof P gt) g (s.setBox l .used) { w with heap := w.heap.setIfInBounds (g.bx l) (.loop L') } ∧ Le g s w g (s.setBox l .used) { w with heap := w.heap.setIfInBounds (g.bx l) (.loop L') } ∧ Esc s (s.setBox l .used) := by
  have hid := box?_lt hb
  have e1 : ({ w with heap := w.heap.setIfInBounds (g.bx l) (.loop L') } : World).heap.size = w.heap.size := by simp
  have e2 : ∀ b, b ≠ g.bx l → ({ w with heap := w.heap.setIfInBounds (g.bx l) (.loop L') } : World).heap[b]? = w.heap[b]? := fun b hb => by
    simp only [Array.getElem?_setIfInBounds]; rw [if_neg (Ne.symm hb)]
  have hnd : w.heap[g.bx l]? ≠ some (.deferred (some [])) := by rw [hL]; intro hh; cases hh
  exact ⟨Inv.setBox hI hb rfl _ e1 e2 hnd trivial, Le.setBox hI hb rfl _ e1 e2 hnd, esc_set hI hid (fun b hv => hv.elim)⟩

/-- The end of a round. -/
theorem endY_ok (hI : Inv (CRof P gt) g s w) {l : Nat} {j : Option C} {jc : Option Code} (hj : PR j jc) (h : endY s l j = some (r, s')) :
    ∃ v w', (Instr.endRound (g.bx l) jc).run P w = .ok v w' ∧ Good (CRof P gt) g s w s' r v w' := by
  unfold endY at h
  split at h <;> try (cases h; done)
  rename_i tm ps x y hb
  cases h
  obtain ⟨L, h1, h2, h3, h4, h5, h6, h7, h8, h9⟩ := loop_box hI hb
  have hsome : j.isNone = jc.isNone := by
    cases j <;> cases jc <;> simp_all [PR]
  obtain ⟨k1, k2, k3⟩ := setLoop (st' := if j.isNone then 0 else 2) (pend' := j) (state := if jc.isNone then .ready else .done) (pending := jc) hI hb h1 (by rw [hsome]; cases jc <;> trivial) hj
  refine ⟨.bool jc.isNone, _, ?_, g, k1, k2, by simp only [V]; rw [hsome], k3⟩
  simp only [Instr.endRound, Sem.run_bind, h8, Result.andThen_ok, h9, Sem.run_pure]

theorem yield_ok (hS : SelfOk P gt self) (hI : Inv (CRof P gt) g s w) (hG : GT gt g w) {l : Nat} {args : List AV} {vs : List Value} (hv : VL g s w args vs) (h : callV self (.yld l) args s = some (r, s')) :
    ∃ (f : FuncId) (tmps : Array Value) (x y : Code), (Instr.yield (g.bx l) vs.toArray).run P w = .ok (.round (g.bx l) f tmps x y) w ∧
      RoundIn (fence rd) 0 P (g.bx l) f tmps x y w fun e w'' => ∃ v, e = .returned v ∧ Good (CRof P gt) g s w s' r v w'' := by
  simp only [callV] at h
  split at h <;> try (cases h; done)
  rename_i tm ps x y hb
  split at h <;> try (cases h; done)
  rename_i t ht
  obtain ⟨L, h1, h2, h3, h4, h5, h6, h7, h8, h9⟩ := loop_box hI hb
  obtain ⟨n1, n2, pops1, c1⟩ := h6
  obtain ⟨_, m2, pops2, c2⟩ := h7
  obtain ⟨h5, h5'⟩ := h5
  obtain ⟨p1, p2, p3⟩ := putL_ok h4 h5' hv ht
  have hsz : vs.toArray.size = L.params.size := by
    rw [← h5] at p1; simpa using p1
  refine ⟨L.fn, (L.params.zip vs.toArray).foldl (fun tmps (t, a) => tmps.setIfInBounds t a) L.tmps, L.assign, L.body, ?_, ?_⟩
  · simp only [Instr.yield, Sem.run_bind, h8, Result.andThen_ok]
    rw [if_neg (fun hh => hh hsz)]
    rfl
  · have htm : (L.params.zip vs.toArray).foldl (fun tmps (t, a) => tmps.setIfInBounds t a) L.tmps = (ps.zip vs).foldl (fun tmps x => tmps.setIfInBounds x.1 x.2) L.tmps := by
      rw [← h5, ← Array.foldl_toList, Array.toList_zip]
    rw [htm]
    split at h <;> try (cases h; done)
    rename_i t1 s1 ha
    split at h <;> try (cases h; done)
    rename_i tm2 ps2 x2 y2 hb2
    refine roundIn_of_wpIn (F := fence rd) (n := 0) trivial ?_
    have hA := hS.code _ _ _ _ _ _ ha L.tmps.size pops1 L.assign n1 c1 g w (some (g.bx l)) { tmps := (ps.zip vs).foldl (fun tmps x => tmps.setIfInBounds x.1 x.2) L.tmps, defers := [] } (fun _ => n2) hI hG p2 p3
    refine wpIn_mono hA.1 ?_
    rintro ex a1 w1 ⟨hex, hsz1, ⟨g1, hI1, hL1, hT1, hE1⟩, _, _⟩
    cases ex <;> simp only [ExRel] at hex
    simp only [Exit.then]
    obtain ⟨L2, q1, q2, q3, q4, q5, q6, q7, q8, q9⟩ := loop_box hI1 hb2
    obtain ⟨r1, r2, r3⟩ := setLoop (st' := 1) (pend' := none) (state := .busy) (pending := L2.pending) hI1 hb2 q1 trivial q3
    have hst : L2.state = .ready := by
      cases hs : L2.state <;> simp_all [LS]
    have hbx : g1.bx l = g.bx l := hL1.bx l (box?_lt hb)
    rw [← hbx]
    refine ⟨_, by simp only [Instr.beginRound, Sem.run_bind, q8, Result.andThen_ok, q9, hst]; rfl, ?_⟩
    have hB : ∀ x t2 s2, self.code y t1 (s1.setBox l (.loop 1 none tm2 ps2 x2 y2)) = some (x, t2, s2) → _ := fun x t2 s2 hx =>
      hS.code _ _ _ _ _ _ hx L.tmps.size pops2 L.body n1 c2 g1 _ (some (g1.bx l)) a1 (fun _ => m2) r1 ((hG.mono hL1).mono r2) (VT_mono r2 hT1) (by rw [hsz1]; exact p3)
    have hEsc : Esc s (s1.setBox l (.loop 1 none tm2 ps2 x2 y2)) := Esc.trans hL1.nb hE1 r3
    have hLe := hL1.trans r2
    split at h <;> try (cases h; done)
    all_goals
      rename_i hx
      refine wpIn_mono (hB _ _ _ hx).1 ?_
      rintro ex2 a2 w2 ⟨hex2, _, ⟨g2, hI2, hL2, _, hE2⟩, _, _⟩
      have hbx2 : g2.bx l = g1.bx l := hL2.bx l (Nat.lt_of_lt_of_le (box?_lt hb) hLe.nb)
      cases ex2 <;> simp only [ExRel] at hex2
    · obtain ⟨v, w3, e1, e2⟩ := endY_ok hI2 (j := none) (jc := none) trivial h
      rw [hbx2] at e1
      exact ⟨v, w3, e1, v, rfl, Good.from (hLe.trans hL2) (Esc.trans hLe.nb hEsc hE2) e2⟩
    · subst hex2
      obtain ⟨v, w3, e1, e2⟩ := endY_ok hI2 (j := some (.exit _)) (jc := some (.exit _)) rfl h
      rw [hbx2] at e1
      exact ⟨v, w3, e1, v, rfl, Good.from (hLe.trans hL2) (Esc.trans hLe.nb hEsc hE2) e2⟩
    · obtain ⟨v, w3, e1, e2⟩ := endY_ok hI2 (j := some .ret) (jc := some .ret) trivial h
      rw [hbx2] at e1
      exact ⟨v, w3, e1, v, rfl, Good.from (hLe.trans hL2) (Esc.trans hLe.nb hEsc hE2) e2⟩
end
end Go.Proofs.YtfaodjpibdhdjaaDoor.Am
