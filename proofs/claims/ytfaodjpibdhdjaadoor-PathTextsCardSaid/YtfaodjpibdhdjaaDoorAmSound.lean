/-
  The abstract machine is sound: what it answers, the model's call answers.
-/
import Derived.Test.YtfaodjpibdhdjaaDoorAmFun
set_option linter.all false
set_option linter.unusedVariables false
set_option linter.unusedSimpArgs false
set_option linter.unusedSectionVars false
set_option linter.constructorNameAsVariable false
namespace Go.Proofs.YtfaodjpibdhdjaaDoor.Am
section
variable {P : Program} {gt : Nat → Option (List AV)} {prog : Nat → Option Fun} {self : Self} {g g2 : G} {s s' s2 : St} {w w0 w1 w2 : World} {e : Tr} {r : AV}

theorem Gone.cell (h : Gone w0 w1 w2) : ∀ a v, w1.cell? a = some v → w2.cell? a = some v := by
  intro a v hv
  rcases h.2.1 a.block with h1 | ⟨_, d, h1⟩
  · simpa only [World.cell?, h1] using hv
  · simp [World.cell?, h1] at hv

theorem compF_cases {keep raw : Bool} {pops : List Nat} {F : Func} {fn : Fun} (h : compF P gt keep raw pops F = some fn) :
    ∃ b, F.body = some b ∧ compR P F.results.toList = some fn.res ∧ fn.body = compC P gt pops F.ntmps b ∧ fn.ntmps = F.ntmps ∧ F.ntmps < 1000 := by
  unfold compF at h
  split at h <;> try (cases h; done)
  rename_i b res hb hr
  split at h <;> try (cases h; done)
  rename_i hc
  cases h
  exact ⟨b, hb, hr, rfl, rfl, hc.1⟩

def tupV : List Value → Value
  | [v] => v
  | l => .tuple l.toArray

theorem run_results {fn : Func} {tmps : Array Value} {us : List Value} (h : (fn.results.toList.mapM (resFn tmps)).run P w = .ok us w) :
    (results fn tmps).run P w = .ok (tupV us) w := by
  show (do
    let vs ← fn.results.mapM (resFn tmps)
    pure (if h : vs.size = 1 then vs[0] else .tuple vs) : Sem Value).run P w = _
  rw [Array.mapM_eq_mapM_toList]
  simp only [Sem.run_bind, Sem.run_map, h, Result.andThen_ok, Sem.run_pure]
  match us with
  | [] => simp [tupV]
  | [v] => simp [tupV]
  | a :: b :: l => simp [tupV]

theorem tup_ok {vs : List AV} {us : List Value} (h : VL g s w vs us) : V g s w (tupOf vs) (tupV us) := by
  match vs, h with
  | [], h =>
    simp only [VL] at h; subst h
    simp only [tupOf, tupV, V, VL]; exact ⟨[], rfl, rfl⟩
  | [a], h =>
    simp only [VL] at h
    obtain ⟨v, r, rfl, h1, rfl⟩ := h
    exact h1
  | a :: b :: l, h =>
    have h' := h
    simp only [VL] at h
    obtain ⟨v, r, rfl, h1, v2, r2, rfl, h2, h3⟩ := h
    simp only [tupOf, tupV, V]
    exact ⟨_, h', rfl⟩

/-! ### Values told at a border -/
theorem wk_cells : ∀ (c : CT) (a : AV), (wk c a).cells.length = a.cells.length ∧ (ones a.cells = true → ones (wk c a).cells = true) := by
  have hz : ∀ (l : List AV) (cs : List CT), (∀ a ∈ l, ∀ c, (ones [a] = true → ones [wk c a] = true)) → (wkZ cs l).length = l.length ∧ (ones l = true → ones (wkZ cs l) = true) := by
    intro l
    induction l with
    | nil => intro cs _; cases cs <;> simp [wkZ]
    | cons a l ih =>
      intro cs h
      cases cs with
      | nil => exact ⟨by simp [wkZ], fun h => by simpa [wkZ] using h⟩
      | cons c cs =>
        obtain ⟨h1, h2⟩ := ih cs fun a ha => h a (List.mem_cons_of_mem _ ha)
        refine ⟨by simp [wkZ, h1], fun ho => ?_⟩
        obtain ⟨h3, h4⟩ := ones_cons ho
        have h5 := h a (by simp) c h3
        have h6 := h2 h4
        simp only [wkZ]
        generalize wk c a = x at h5
        cases x <;> simp_all [ones]
  have one : ∀ (a : AV) (c : CT), ones [a] = true → ones [wk c a] = true := by
    intro a c h
    cases a <;> cases c <;> first | exact h | rfl | (simp [ones] at h; done) | skip
    all_goals
      rename_i m _ _
      cases m <;> simp only [wk] <;> (try split) <;> first | exact h | rfl
  intro c a
  cases a with
  | agg l =>
    cases c with
    | agg cs =>
      simp only [wk, AV.cells]
      exact hz l cs fun a _ c => one a c
    | id => simp [wk]
    | sl es c => simp [wk]
  | sl es xs m =>
    cases c with
    | sl es' c' =>
      cases m <;> simp only [wk] <;> (try split) <;> simp [AV.cells, ones]
    | id => simp [wk]
    | agg cs => simp [wk]
  | _ => cases c <;> simp [wk, AV.cells, ones]

theorem wkM_len (c : CT) : ∀ l : List AV, (wkM c l).length = l.length
  | [] => by cases c <;> rfl
  | a :: l => by simp [wkM, wkM_len c l]

theorem wkM_allLen (c : CT) (es : Nat) : ∀ l : List AV, allLen es l = true → allLen es (wkM c l) = true
  | [], h => by cases c <;> simpa [wkM] using h
  | a :: l, h => by
    simp only [allLen, Bool.and_eq_true] at h
    simp only [wkM, allLen, Bool.and_eq_true]
    obtain ⟨h1, h2⟩ := wk_cells c a
    exact ⟨⟨by rw [h1]; exact h.1.1, h2 h.1.2⟩, wkM_allLen c es l h.2⟩

mutual
theorem V_wk : ∀ (a : AV) (c : CT) (v : Value), V g s w a v → V g s w (wk c a) v
  | .b _, c, v, h => by cases c <;> exact h
  | .i _ _, c, v, h => by cases c <;> exact h
  | .s _, c, v, h => by cases c <;> exact h
  | .np, c, v, h => by cases c <;> exact h
  | .p _ _, c, v, h => by cases c <;> exact h
  | .ep _ _ _, c, v, h => by cases c <;> exact h
  | .nsl, c, v, h => by
    cases c with
    | sl es c => exact V_wsnil h
    | id => exact h
    | agg cs => exact h
  | .sl e xs m, c, v, h => by
    cases c with
    | id => exact h
    | agg cs => exact h
    | sl es c =>
      have key : ∀ m', m' = .full ∨ m' = .shut → V g s w (.sl e xs m') v → V g s w (.ws false e (wkM c xs)) v := by
        intro m' hm h
        rw [V_ws]
        right; right
        simp only [V] at h ⊢
        obtain ⟨b, o, cap, vs, he, h0, ha, _, hv⟩ := h
        have hok : s.ok m' = true := by rcases hm with rfl | rfl <;> rfl
        obtain ⟨h1, h2, h3, h4⟩ := hv hok
        have hl := wkM_len c xs
        refine ⟨b, o, cap, vs, by rw [hl]; exact he, by rw [hl]; exact h0, wkM_allLen c e xs ha, trivial, fun _ => ⟨VL_wkM xs c vs h1, h2, ?_, ?_⟩⟩
        · rw [hl]; rcases hm with rfl | rfl <;> exact h3
        · rw [hl]; exact h0.2
      cases m with
      | tok k u => exact h
      | full =>
        simp only [wk]
        split
        · rename_i hb; have := Nat.eq_of_beq_eq_true hb; subst this; exact key _ (.inl rfl) h
        · exact h
      | shut =>
        simp only [wk]
        split
        · rename_i hb; have := Nat.eq_of_beq_eq_true hb; subst this; exact key _ (.inr rfl) h
        · exact h
  | .ws f e xs, c, v, h => by
    cases c with
    | id => exact h
    | agg cs => exact h
    | sl es c =>
      simp only [wk]
      cases f with
      | false => exact h
      | true =>
        rcases V_ws.1 h with ⟨h1, rfl⟩ | ⟨h1, rfl⟩ | h1
        · exact V_wsnil h1
        · exact V_wswz h1
        · exact V_weak (.inr ⟨rfl, rfl⟩) h1
  | .bl _ _ _ _ _, c, v, h => by cases c <;> exact h
  | .ige _, c, v, h => by cases c <;> exact h
  | .wz, c, v, h => by
    cases c with
    | sl es c => exact V_wswz h
    | id => exact h
    | agg cs => exact h
  | .sd _ _ _, c, v, h => by cases c <;> exact h
  | .nm, c, v, h => by cases c <;> exact h
  | .m _, c, v, h => by cases c <;> exact h
  | .nf, c, v, h => by cases c <;> exact h
  | .fn _ _, c, v, h => by cases c <;> exact h
  | .yld _, c, v, h => by cases c <;> exact h
  | .ni, c, v, h => by cases c <;> exact h
  | .ifc _ _, c, v, h => by cases c <;> exact h
  | .mth _ _, c, v, h => by cases c <;> exact h
  | .agg l, c, v, h => by
    cases c with
    | id => exact h
    | sl es c => exact h
    | agg cs =>
      simp only [wk, V] at h ⊢
      obtain ⟨vs, h1, h2⟩ := h
      exact ⟨vs, VL_wkZ l cs vs h1, h2⟩
  | .tup _, c, v, h => by cases c <;> exact h
  | .any, c, v, h => by cases c <;> exact h
theorem VL_wkM : ∀ (l : List AV) (c : CT) (vs : List Value), VL g s w l vs → VL g s w (wkM c l) vs
  | [], c, vs, h => by cases c <;> exact h
  | a :: l, c, vs, h => by
    simp only [wkM, VL] at h ⊢
    obtain ⟨v, r, he, h1, h2⟩ := h
    exact ⟨v, r, he, V_wk a c v h1, VL_wkM l c r h2⟩
theorem VL_wkZ : ∀ (l : List AV) (cs : List CT) (vs : List Value), VL g s w l vs → VL g s w (wkZ cs l) vs
  | [], cs, vs, h => by cases cs <;> exact h
  | a :: l, [], vs, h => h
  | a :: l, c :: cs, vs, h => by
    simp only [wkZ, VL] at h ⊢
    obtain ⟨v, r, he, h1, h2⟩ := h
    exact ⟨v, r, he, V_wk a c v h1, VL_wkZ l cs r h2⟩
end

theorem wkZ_len : ∀ (cs : List CT) (l : List AV), (wkZ cs l).length = l.length
  | [], l => by cases l <;> rfl
  | c :: cs, [] => rfl
  | c :: cs, a :: l => by simp [wkZ, wkZ_len cs l]

theorem V_tup_wk {vs : List AV} {cs : List CT} {v : Value} (h : V g s w (tupOf vs) v) : V g s w (tupOf (wkZ cs vs)) v := by
  match vs, cs with
  | [], cs => cases cs <;> exact h
  | a :: l, [] => exact h
  | [a], c :: cs =>
    have : wkZ (c :: cs) [a] = [wk c a] := by cases cs <;> simp [wkZ]
    rw [this]; exact V_wk a c v h
  | a :: b :: l, c :: cs =>
    have e1 : tupOf (wkZ (c :: cs) (a :: b :: l)) = .tup (wkZ (c :: cs) (a :: b :: l)) := by cases cs <;> rfl
    rw [e1]
    simp only [tupOf, V] at h ⊢
    obtain ⟨vs, h1, h2⟩ := h
    exact ⟨vs, VL_wkZ _ _ vs h1, h2⟩

theorem callB_ok (hS : SelfOk P gt self) (hN : NamesOk P) (hX : Ctx P gt prog) {f : Nat} {fn : Fun} {as : List AV} (hfn : prog f = some fn) (hpr : fn.prim = none) (hlen : Nat.ble as.length fn.ntmps = true) (h : callB self fn as s = some (r, s')) (hI : Inv (CRof P gt) g s w) (hG : GT gt g w) {vs : List Value} (hv : VL g s w as vs) :
    Calls P f vs.toArray w fun e w' => ∃ v, e = .returned v ∧ Good (CRof P gt) g s w s' r v w' := by
  unfold callB at h
  have hlen' : as.length ≤ fn.ntmps := by rw [Nat.ble_eq] at hlen; exact hlen
  obtain ⟨F, pops, raw, hF, hcomp⟩ := hX.fns f fn hfn hpr
  obtain ⟨b, hb, hres, hbody, hnt, hlt⟩ := compF_cases hcomp
  rw [hnt] at hlen'
  have hI0 := hI.lo s.nb
  have hL0 : Le g s w g { s with lo := s.nb } w := Le.lo s.nb
  obtain ⟨hT0, hsz⟩ := VT_init (VL_mono hL0 _ _ hv) hlt hlen'
  cases hev : evC self fn.body (initT 0 as .e) { s with lo := s.nb } with
  | none => rw [hev] at h; cases h
  | some t =>
    obtain ⟨x, e', s1⟩ := t
    rw [hev] at h
    rw [hbody] at hev
    have hcode := (code_ok hS hN hX b hlt hev (rd := none) (a := { tmps := vs.toArray ++ Array.replicate (F.ntmps - vs.toArray.size) Go.undef, defers := [] }) (fun hh => by cases hh) hI0 (hG.mono hL0) hT0 hsz).1
    refine (callsIn_wide (n := 0)).1 (show CallsIn (fence none) 0 P f vs.toArray w _ from callsIn_of_wp_marks hF hb trivial (wpIn_mono hcode ?_))
    rintro ex a1 w1 ⟨hex, _, ⟨g1, hI1, hL1, hT1, hE1⟩, _, ds, hds, hmarks, hpair⟩
    have hds' : a1.defers = ds := by rw [hds]; simp
    -- whatever the marks leave
    have key : (x = .n ∨ x = .r) → ∀ w2, Gone w w1 w2 → ∃ v, (results F a1.tmps).run P w2 = .ok v w2 ∧ ∃ v', (Ending.returned v) = .returned v' ∧ Good (CRof P gt) g s w s' r v' w2 := by
      intro hx w2 hg
      have hc1 : Cut g1 s1 w1 g1 s1 w1 s1 w2 := ⟨Le.refl _ _ _, Nat.le_refl _, Nat.le_refl _, fun _ _ => rfl, hg.cell⟩
      have hI2 : Inv (CRof P gt) g1 s1 w2 := Inv.cut hc1 hI1 hg.1 (fun b => (hg.2.1 b).imp id (fun h => h.2)) (Nat.le_refl _) (Nat.le_refl _) hI1.lenB hI1.lenT (fun _ _ => rfl) (fun _ _ => rfl) (fun id B hB a ha => .inr (box_was hI1 hB ha))
      have hT2 : VT g1 s1 w2 e' a1.tmps := ⟨hT1.1, fun t => V_trunc hc1 _ _ _ (hT1.2 t) (hT1.2 t)⟩
      have hc2 : Cut g { s with lo := s.nb } w g1 s1 w1 s1 w2 := ⟨hL1, hL1.nb, hL1.nt, fun _ _ => rfl, hg.cell⟩
      have hold : ∀ b, b < w.heap.size → w2.heap[b]? = w1.heap[b]? := fun b hb => by
        rcases hg.2.1 b with h | ⟨h, _⟩
        · exact h
        · omega
      have hL2 : Le g { s with lo := s.nb } w g1 s1 w2 := Le.cut hc2 (by rw [hg.1]; exact Nat.le_refl _) (Nat.le_refl _) (Nat.le_refl _) hI.base hold (fun b hb h => by rw [hold b hb]; exact h) hg.2.2
      have h' : (match fn.keep, fn.res with
        | true, [(t, none)] => some (e'.get t, { s1 with lo := min s.lo s1.lo })
        | true, _ => none
        | false, res => match resOf e' s1 res with
          | some (vs, s1) => some (tupOf (wkZ fn.cout vs), leave s s1 (tupOf vs))
          | none => none) = some (r, s') := by
        rcases hx with rfl | rfl <;> exact h
      split at h' <;> try (cases h'; done)
      · rename_i t _ hr
        cases h'
        rw [hr] at hres
        have hrs : F.results.toList = [.tmp t] := by
          cases hl : F.results.toList with
          | nil => rw [hl] at hres; simp [compR] at hres
          | cons y l =>
            rw [hl] at hres
            cases y with
            | tmp u =>
              simp only [compR] at hres
              split at hres <;> try (cases hres; done)
              rename_i q hq
              cases hres
              cases l with
              | nil => rfl
              | cons y l => cases y <;> simp only [compR] at hq <;> (split at hq <;> cases hq)
            | cell u ty =>
              simp only [compR] at hres
              split at hres <;> cases hres
        refine ⟨a1.tmps.getD t Go.undef, ?_, _, rfl, leave_lo hI2 hL2 hE1 (hT2.2 t)⟩
        have := run_results (P := P) (w := w2) (fn := F) (tmps := a1.tmps) (us := [a1.tmps.getD t Go.undef]) (by rw [hrs]; simp [resFn])
        exact this
      · split at h' <;> try (cases h'; done)
        rename_i vs' s3 hr
        cases h'
        obtain ⟨us, e1, g3, hI3, hL3, hV3, hE3⟩ := results_ok hres hI2 hT2 hr
        exact ⟨_, run_results e1, _, rfl, leave_ok hI hI3 (hL2.trans hL3) (Esc.trans hL2.nb hE1 hE3) (tup_ok hV3) |>.weak fun _ _ _ hv => V_tup_wk hv⟩
    have hgo : (x = .n ∨ x = .r) → LeavesInM (fence none) 0 P F a1.tmps (fun e w' => ∃ v, e = .returned v ∧ Good (CRof P gt) g s w s' r v w') a1.defers .returning w1 := fun hx => by
      rw [hds']
      exact leaves_marks (w0 := w) (w1 := w1) (key hx) ds w1 ⟨rfl, fun _ => .inl rfl, rfl, rfl⟩ hmarks hpair
    cases x with
    | x i => cases h
    | n => cases ex <;> simp only [ExRel] at hex; exact hgo (.inl rfl)
    | r => cases ex <;> simp only [ExRel] at hex; exact hgo (.inr rfl)

theorem pureOp_ok {e : Tr} {o : AOp} {v : AV} (h : pureOp e o = some v) (self : Self) (s : St) : evOp self e s o = some (v, s) := by
  have gen : ∀ o : AOp, (if Nat.beq o.cls 0 && quiet e noSt o then match evOp dead e noSt o with
      | some (v, _) => some v
      | none => none
    else none) = some v → evOp self e s o = some (v, s) := by
    intro o h
    split at h <;> try (cases h; done)
    rename_i hc
    simp only [Bool.and_eq_true] at hc
    obtain ⟨hc, hq⟩ := hc
    have hc := Nat.eq_of_beq_eq_true hc
    split at h <;> cases h
    rename_i w s1 he
    have h2 := (evOp_quiet (by rw [hc]; decide) hq he).2 hc s
    rw [← h2]
    cases o <;> first | rfl | (simp [AOp.cls] at hc; done)
  cases o <;> first | exact gen _ h | skip
  rename_i es T x y
  simp only [pureOp] at h
  unfold pureApp at h
  simp only [evOp]
  split at h
  · cases h; rename_i h1 h2; rw [h1, h2]; rfl
  · cases h; rename_i h1 h2; rw [h1, h2]; rfl
  · split at h <;> cases h; rename_i h1 h2 h3; subst h3; rw [h1, h2]; simp [appA, elems, St.ok]
  · split at h <;> cases h; rename_i h1 h2 h3; subst h3; rw [h1, h2]; simp [appA, elems, St.ok]
  · cases h

theorem pureOps_ok {self : Self} {s : St} : ∀ {l : List Op} {e e' : Tr}, pureOps l e = some e' → evOps self l e s = some (e', s)
  | [], e, e', h => by simp only [pureOps] at h; cases h; rfl
  | o :: l, e, e', h => by
    simp only [pureOps] at h
    simp only [evOps]
    split at h
    · rename_i hw
      rw [if_pos hw]
      split at h <;> try (cases h; done)
      rename_i v hv
      rw [pureOp_ok hv self s]
      exact pureOps_ok h
    · rename_i hw
      rw [if_neg hw]
      exact pureOps_ok h

theorem pureC_ok {self : Self} {s : St} : ∀ {c : C} {e e' : Tr} {b : Bool}, pureC c e = some (b, e') → evC self c e s = some (if b then .r else .n, e', s)
  | .skip, e, e', b, h => by simp only [pureC] at h; cases h; rfl
  | .ret, e, e', b, h => by simp only [pureC] at h; cases h; rfl
  | .reg ops, e, e', b, h => by
    simp only [pureC] at h
    split at h <;> cases h
    rename_i h1
    simp only [evC, pureOps_ok h1]; rfl
  | .seq c d, e, e', b, h => by
    simp only [pureC] at h
    simp only [evC]
    cases hc : pureC c e with
    | none => rw [hc] at h; cases h
    | some x =>
      obtain ⟨b1, e1⟩ := x
      rw [hc] at h
      rw [pureC_ok hc]
      cases b1 with
      | false => exact pureC_ok h
      | true => cases h; rfl
  | .cond x c d, e, e', b, h => by
    simp only [pureC] at h
    simp only [evC]
    split at h <;> try (cases h; done)
    · exact pureC_ok h
    · exact pureC_ok h
  | .regD _ _, _, _, _, h => by cases h
  | .blk _ _, _, _, _, h => by cases h
  | .loop _, _, _, _, h => by cases h
  | .exit _, _, _, _, h => by cases h
  | .rf _ _ _ _, _, _, _, h => by cases h
  | .thw _, _, _, _, h => by cases h
  | .bad, _, _, _, h => by cases h

theorem callB_pure {self : Self} {fn : Fun} {as : List AV} {s : St} {b : Bool} {e : Tr} {t : Nat} (hk : fn.keep = true) (hr : fn.res = [(t, none)]) (h : pureC fn.body (initT 0 as .e) = some (b, e)) :
    callB self fn as s = some (e.get t, { s with lo := min s.lo s.nb }) := by
  unfold callB
  rw [pureC_ok h]
  cases b <;> simp only [hk, hr] <;> rfl

theorem call_ok (hS : SelfOk P gt self) (hN : NamesOk P) (hX : Ctx P gt prog) {f : Nat} {args : List AV} (h : callF prog self f args s = some (r, s')) (hI : Inv (CRof P gt) g s w) (hG : GT gt g w) {vs : List Value} (hv : VL g s w args vs) :
    Calls P f vs.toArray w fun e w' => ∃ v, e = .returned v ∧ Good (CRof P gt) g s w s' r v w' := by
  unfold callF at h
  split at h <;> try (cases h; done)
  rename_i fn hfn
  split at h
  · rename_i p hp
    obtain ⟨h1, rfl⟩ := ret1_cases h
    refine ((hX.prims f fn p hfn hp).2 _ _ h1 g _ w vs hG hv).mono ?_
    rintro e w' ⟨v, rfl, hv', hgr⟩
    exact ⟨v, rfl, g, hI.grown hgr, Le.grown hI hgr, hv' _ _ _, Esc.refl _⟩
  rename_i hprim
  split at h <;> try (cases h; done)
  rename_i hlen
  have hv' := VL_wkZ _ fn.cin _ hv
  have hlen2 : Nat.ble (wkZ fn.cin args).length fn.ntmps = true := by rw [wkZ_len]; exact hlen
  split at h
  · rename_i v hb
    cases h
    unfold both at hb
    split at hb <;> try (cases hb; done)
    rename_i t fl es hk hr ha
    split at hb <;> try (cases hb; done)
    rename_i b1 e1 b2 e2 b3 e3 h1 h2 h3
    split at hb <;> try (cases hb; done)
    rename_i e e0 hg1 hg2 hg3
    split at hb <;> cases hb
    rename_i he
    obtain ⟨he, he0⟩ := he
    subst he
    subst he0
    rw [ha] at hv' hlen2
    simp only [VL] at hv'
    obtain ⟨u, l, rfl, hu, rfl⟩ := hv'
    rcases V_ws.1 hu with ⟨hu, _⟩ | ⟨hu, _⟩ | hu
    · have hc := callB_pure (self := self) (s := s) hk hr h1
      rw [hg1] at hc
      refine (callB_ok hS hN hX hfn hprim (as := [.nsl]) hlen2 hc hI hG (vs := [u]) (by simp only [VL]; exact ⟨u, [], rfl, hu, rfl⟩)).mono ?_
      rintro e w' ⟨v, rfl, hgd⟩
      exact ⟨v, rfl, hgd.weak fun _ _ _ hv => V_wsnil hv⟩
    · have hc := callB_pure (self := self) (s := s) hk hr h3
      rw [hg3] at hc
      refine (callB_ok hS hN hX hfn hprim (as := [.wz]) hlen2 hc hI hG (vs := [u]) (by simp only [VL]; exact ⟨u, [], rfl, hu, rfl⟩)).mono ?_
      rintro e w' ⟨v, rfl, hgd⟩
      exact ⟨v, rfl, hgd.weak fun _ _ _ hv => V_weak (.inl rfl) hv⟩
    · have hm : cond fl Cap.full .shut = capM fl := by cases fl <;> rfl
      rw [hm] at h2
      have hc := callB_pure (self := self) (s := s) hk hr h2
      rw [hg2] at hc
      refine (callB_ok hS hN hX hfn hprim (as := [.sl e0 [] (capM fl)]) hlen2 hc hI hG (vs := [u]) (by simp only [VL]; exact ⟨u, [], rfl, hu, rfl⟩)).mono ?_
      rintro e w' ⟨v, rfl, hgd⟩
      exact ⟨v, rfl, hgd.weak fun _ _ _ hv => V_weak (.inl rfl) hv⟩
  · exact callB_ok hS hN hX hfn hprim hlen2 h hI hG hv'

theorem run_ok (hN : NamesOk P) (hX : Ctx P gt prog) : ∀ n, SelfOk P gt (run prog n)
  | 0 => ⟨fun _ _ _ _ _ h => by simp [run] at h, fun _ _ _ _ _ _ h => by simp [run] at h, fun _ _ _ _ _ h => by simp [run] at h⟩
  | n + 1 => by
    have ih := run_ok hN hX n
    refine ⟨fun f args s r s' h g w vs hI hG hv => ?_, fun c e s x e' s' h k pops code hk hc g w rd a hr hI hG hT hz => ?_, fun f args s r s' h => ?_⟩
    · exact call_ok ih hN hX (by simpa only [run] using h) hI hG hv
    · subst hc
      exact code_ok ih hN hX code hk (by simpa only [run] using h) hr hI hG hT hz
    · simp only [run] at h
      unfold callF at h
      split at h <;> try (cases h; done)
      rename_i fn hfn
      cases hprim : fn.prim with
      | some p => exact (hX.prims f fn p hfn hprim).1
      | none =>
      obtain ⟨F, pops, raw, hF, hcomp⟩ := hX.fns f fn hfn hprim
      obtain ⟨b, hb, _⟩ := compF_cases hcomp
      exact ⟨F, b, hF, hb⟩
end
end Go.Proofs.YtfaodjpibdhdjaaDoor.Am
