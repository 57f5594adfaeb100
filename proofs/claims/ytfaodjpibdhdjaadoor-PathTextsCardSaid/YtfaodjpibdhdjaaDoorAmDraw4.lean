/-
  Regions that draw their order: whatever the order, the same.
-/
import Derived.Test.YtfaodjpibdhdjaaDoorAmDraw3
import Derived.OrdersIn
set_option linter.all false
set_option linter.unusedVariables false
set_option linter.unusedSimpArgs false
set_option linter.unusedSectionVars false
set_option linter.constructorNameAsVariable false
namespace Go.Proofs.YtfaodjpibdhdjaaDoor.Am
section
variable {rd : Option Nat} {P : Program} {gt : Nat → Option (List AV)} {prog : Nat → Option Fun} {self : Self}

theorem compOps_get {pop : Bool × Nat × String} {n : Nat} {ops : Array Oper} : ∀ {l : List Oper} {cl : List Op}, compOps P gt pop n ops l = some cl → cl.length = l.length ∧ ∀ (i : Nat) (o : Oper), l[i]? = some o →
    ∃ c, cl[i]? = some c ∧ c.dst = o.dst ∧ c.op = (compOp P gt pop o).getD .bad ∧ dstOk n o.dst = true ∧ (match o.guard with
      | none => c.guard = none
      | some (j, want) => ∃ oj d, ops[j]? = some oj ∧ oj.dst = some d ∧ d < n ∧ c.guard = some (d, want))
  | [], cl, h => by simp only [compOps] at h; cases h; exact ⟨rfl, fun i o hi => by simp at hi⟩
  | o :: l, cl, hc => by
    simp only [compOps] at hc
    split at hc <;> try (cases hc; done)
    rename_i r hr
    split at hc <;> try (cases hc; done)
    rename_i hd
    obtain ⟨k1, k2⟩ := compOps_get hr
    obtain ⟨gd, hcl, hgd⟩ : ∃ gd, cl = ⟨o.dst, (compOp P gt pop o).getD .bad, gd⟩ :: r ∧ (match o.guard with
      | none => gd = none
      | some (j, want) => ∃ oj d, ops[j]? = some oj ∧ oj.dst = some d ∧ d < n ∧ gd = some (d, want)) := by
      cases hg : o.guard with
      | none => simp only [hg] at hc; cases hc; exact ⟨none, rfl, rfl⟩
      | some jw =>
        obtain ⟨j, want⟩ := jw
        simp only [hg] at hc
        split at hc <;> try (cases hc; done)
        rename_i oj hoj
        split at hc <;> try (cases hc; done)
        rename_i d hdst
        split at hc <;> try (cases hc; done)
        rename_i hdn
        cases hc
        exact ⟨_, rfl, oj, d, hoj, hdst, hdn, rfl⟩
    subst hcl
    refine ⟨by simp [k1], fun i o' hi => ?_⟩
    cases i with
    | zero =>
      simp only [List.getElem?_cons_zero, Option.some.injEq] at hi
      subst hi
      exact ⟨_, rfl, rfl, rfl, hd, hgd⟩
    | succ i =>
      simp only [List.getElem?_cons_succ] at hi ⊢
      exact k2 i o' hi

theorem countP_lt {f f' : Nat → Bool} : ∀ {l : List Nat} {i : Nat}, i ∈ l → (∀ x, f' x = true → f x = true) → f i = true → f' i = false → l.countP f' < l.countP f
  | [], i, h, _, _, _ => by simp at h
  | x :: l, i, h, hm, h1, h2 => by
    have hle : l.countP f' ≤ l.countP f := List.countP_mono_left fun x _ hx => hm x hx
    rw [List.countP_cons, List.countP_cons]
    rcases List.mem_cons.1 h with rfl | h
    · rw [h1, h2]; simp; omega
    · have := countP_lt h hm h1 h2
      have hx := hm x
      cases hf : f' x with
      | true => rw [hx hf]; simp; omega
      | false => cases f x <;> simp <;> omega

def cnt (n : Nat) (listed : Array Bool) : Nat := (List.range n).countP fun i => !listed.getD i true

theorem ready_spec {ops : Array Oper} {listed : Array Bool} {i : Nat} (h : i ∈ Region.ready .any ops listed) (hsz : listed.size = ops.size) :
    ∃ o, ops[i]? = some o ∧ listed[i]? = some false ∧ ∀ ed ∈ o.after.toList, Region.binds .any ed = true → listed[ed.on]? = some true := by
  unfold Region.ready at h
  rw [List.mem_filter, List.mem_range, Bool.and_eq_true] at h
  obtain ⟨h1, h2, h3⟩ := h
  have ho := Array.getElem?_eq_getElem h1
  refine ⟨ops[i], ho, ?_, fun ed hed hb => ?_⟩
  · have : i < listed.size := by omega
    rw [Array.getElem?_eq_getElem this]
    rw [Array.getD_eq_getD_getElem?, Array.getElem?_eq_getElem this] at h2
    simpa using h2
  · rw [ho] at h3
    simp only [Option.map_some, Option.getD_some] at h3
    have := (Array.all_eq_true_iff_forall_mem.1 h3) ed (by simpa using hed)
    rw [hb] at this
    simp only [Bool.not_true, Bool.false_or, Array.getD_eq_getD_getElem?] at this
    cases hg : listed[ed.on]? with
    | none => rw [hg] at this; simp at this
    | some b => rw [hg] at this; simpa using this

theorem all_listed {ops : Array Oper} {listed : Array Bool} (hb : edgesBack 0 ops.toList = true) (hsz : listed.size = ops.size) (h : Region.ready .any ops listed = []) : ∀ i, i < ops.size → listed[i]? = some true := by
  intro i
  induction i using Nat.strongRecOn with
  | _ i ih =>
    intro hi
    have hi' : i < listed.size := by omega
    cases hl : listed[i]? with
    | none => rw [Array.getElem?_eq_getElem hi'] at hl; cases hl
    | some b =>
      cases b with
      | true => rfl
      | false =>
        exfalso
        have : i ∈ Region.ready .any ops listed := by
          unfold Region.ready
          rw [List.mem_filter, List.mem_range, Bool.and_eq_true]
          refine ⟨hi, ?_, ?_⟩
          · rw [Array.getD_eq_getD_getElem?, hl]; rfl
          · rw [Array.getElem?_eq_getElem hi]
            simp only [Option.map_some, Option.getD_some]
            refine Array.all_eq_true_iff_forall_mem.2 fun ed hed => ?_
            cases hbd : Region.binds .any ed with
            | false => rfl
            | true =>
              have hlt := edgesBack_spec hb i ops[i] (by simp [hi]) ed (by simpa using hed) hbd
              rw [Array.getD_eq_getD_getElem?, ih ed.on (by omega) (by omega)]; rfl
        rw [h] at this; cases this

def Stand (P : Program) (gt : Nat → Option (List AV)) (ops : Array Oper) (cl : List Op) (E : Nat → Tr) (S : Nat → St) (g : G) (s : St) (w : World) (a : Act) (listed : Array Bool) (a1 : Act) (w1 : World) : Prop :=
  (∃ gL eL sL, Inv (CRof P gt) gL sL w1 ∧ Le g s w gL sL w1 ∧ VT gL sL w1 eL a1.tmps ∧ Esc s sL ∧ Mid cl E S (fun j => listed[j]? = some true) eL sL) ∧ a1.tmps.size = a.tmps.size ∧ a1.defers = a.defers ∧
  ∀ (j : Nat), listed[j]? = some true → ∀ (o : Oper), ops[j]? = some o → ∀ ed ∈ o.after.toList, Region.binds .any ed = true → listed[ed.on]? = some true

theorem stand_end {ops : Array Oper} {cl : List Op} {E : Nat → Tr} {S : Nat → St} {pm : List Nat} {win : Nat → Nat × Nat} {g : G} {s : St} {w w1 : World} {a a1 : Act} {listed : Array Bool} (hcan : Canon self cl E S pm win) (hlen : cl.length = ops.size)
    (h : Stand P gt ops cl E S g s w a listed a1 w1) (hall : ∀ i, i < ops.size → listed[i]? = some true) (hsz : listed.size = ops.size) : OpsPost P gt g s w a (E cl.length) (S cl.length) a1 w1 := by
  obtain ⟨⟨gL, eL, sL, hI, hL, hT, hE, hM⟩, h2, h3, _⟩ := h
  have hs : sL = S cl.length := hM.state _ (Nat.le_refl _) fun j c hc _ => by
    have hj := (List.getElem?_eq_some_iff.1 hc).1
    exact ⟨fun _ => hall j (by omega), fun _ => hj⟩
  subst hs
  refine ⟨h2, h3, gL, hI, hL, ⟨hT.1, fun t => ?_⟩, hE⟩
  have : eL.get t = (E cl.length).get t := by
    by_cases hw : ∃ (j : Nat) (d : Op), cl[j]? = some d ∧ d.dst = some t
    · obtain ⟨j, d, hd, hdt⟩ := hw
      exact hM.done t j d (hall j (by have := (List.getElem?_eq_some_iff.1 hd).1; omega)) hd hdt
    · rw [hM.rest t fun j d _ hd hdt => hw ⟨j, d, hd, hdt⟩]
      exact (hcan.same (Nat.zero_le _) (Nat.le_refl _) fun j d _ _ hd hdt => hw ⟨j, d, hd, hdt⟩).symm
  rw [← this]
  exact hT.2 t

theorem stand_next {ops : Array Oper} {listed : Array Bool} {i : Nat} (hsz : listed.size = ops.size) (hi : i < ops.size) (j : Nat) : (listed.setIfInBounds i true)[j]? = some true ↔ (listed[j]? = some true ∨ j = i) := by
  rw [Array.getElem?_setIfInBounds]
  by_cases h : i = j
  · subst h
    rw [if_pos rfl, if_pos (by omega)]
    simp
  · rw [if_neg h]
    constructor
    · exact .inl
    · rintro (h' | h')
      · exact h'
      · exact absurd h'.symm h

theorem Mid.congr {cl : List Op} {E : Nat → Tr} {S : Nat → St} {L L' : Nat → Prop} {eL : Tr} {sL : St} (h : ∀ j, L j ↔ L' j) (m : Mid cl E S L eL sL) : Mid cl E S L' eL sL :=
  ⟨fun t j c hL => m.done t j c ((h j).2 hL), fun t hn => m.rest t fun j c hL => hn j c ((h j).1 hL), fun k hk hh => m.state k hk fun j c hc hj => by rw [hh j c hc hj, h j]⟩

theorem anyD (hS : SelfOk P gt self) (hN : NamesOk P) (hX : Ctx P gt prog) {pop : Bool × Nat × String} {n : Nat} {ops : Array Oper} {cl : List Op} (hcl : compOps P gt pop n ops ops.toList = some cl) (hb : edgesBack 0 ops.toList = true)
    {E : Nat → Tr} {S : Nat → St} {win : Nat → Nat × Nat} (hcan : Canon self cl E S (predsGo ops.toList []) win) {g : G} {s : St} {w : World} {a : Act} (hn : a.tmps.size = n) (hG : GT gt g w) {Q : Exit → Act → World → Prop}
    (hQ : ∀ a' w', OpsPost P gt g s w a (E cl.length) (S cl.length) a' w' → Q .normal a' w') :
    ∀ (fuel : Nat) (listed : Array Bool) (a1 : Act) (w1 : World), listed.size = ops.size → cnt ops.size listed ≤ fuel → Stand P gt ops cl E S g s w a listed a1 w1 → wpAnyIn (fence rd) 0 P .any ops Q fuel listed a1 w1 := by
  obtain ⟨hlen, hget⟩ := compOps_get hcl
  have hlen' : cl.length = ops.size := by rw [hlen]; simp
  have hend : ∀ (listed : Array Bool) (a1 : Act) (w1 : World), listed.size = ops.size → Stand P gt ops cl E S g s w a listed a1 w1 → Region.ready .any ops listed = [] → Q .normal a1 w1 := fun listed a1 w1 hsz hst hr =>
    hQ a1 w1 (stand_end hcan hlen' hst (all_listed hb hsz hr) hsz)
  intro fuel
  induction fuel with
  | zero =>
    intro listed a1 w1 hsz hc hst
    have hr : Region.ready .any ops listed = [] := by
      cases hr : Region.ready .any ops listed with
      | nil => rfl
      | cons i l =>
        exfalso
        obtain ⟨o, ho, hl, _⟩ := ready_spec (i := i) (by rw [hr]; simp) hsz
        have hi := (Array.getElem?_eq_some_iff.1 ho).1
        have h0 : cnt ops.size listed = 0 := by omega
        unfold cnt at h0
        have := List.countP_eq_zero.1 h0 i (List.mem_range.2 hi)
        rw [Array.getD_eq_getD_getElem?, hl] at this
        simp at this
    exact ⟨hr, hend listed a1 w1 hsz hst hr⟩
  | succ fuel ih =>
    intro listed a1 w1 hsz hc hst
    refine ⟨hend listed a1 w1 hsz hst, fun i hi => ?_⟩
    obtain ⟨o, ho, hl, hed⟩ := ready_spec hi hsz
    have hilt := (Array.getElem?_eq_some_iff.1 ho).1
    obtain ⟨c, hci, hdst, hop, hdok, hgd⟩ := hget i o (by simpa using ho)
    obtain ⟨⟨gL, eL, sL, hI, hL, hT, hE, hM⟩, hts, hdf, hclosed⟩ := hst
    have hnot : ¬ (listed[i]? = some true) := by rw [hl]; simp
    have hpre : ∀ j, ((predsGo ops.toList []).getD i 0).testBit j = true → listed[j]? = some true := preds_done hb hclosed i o ho hed
    have hpost : ∀ j, listed[j]? = some true → ((predsGo ops.toList []).getD j 0).testBit i = true → False := fun j hj hbit => by
      have hjlt : j < listed.size := (Array.getElem?_eq_some_iff.1 hj).1
      have hoj := Array.getElem?_eq_getElem (xs := ops) (i := j) (by omega)
      exact hnot (preds_done hb hclosed j _ hoj (hclosed j hj _ hoj) i hbit)
    have hreads := hM.reads hcan hci hnot hpre hpost
    have hsz' : (listed.setIfInBounds i true).size = ops.size := by simpa using hsz
    have hcnt : cnt ops.size (listed.setIfInBounds i true) ≤ fuel := by
      have : cnt ops.size (listed.setIfInBounds i true) < cnt ops.size listed := by
        unfold cnt
        refine countP_lt (List.mem_range.2 hilt) (fun x hx => ?_) (by rw [Array.getD_eq_getD_getElem?, hl]; rfl) (by rw [Array.getD_eq_getD_getElem?, (stand_next hsz hilt i).2 (.inr rfl)]; rfl)
        rw [Array.getD_eq_getD_getElem?, Array.getElem?_setIfInBounds] at hx
        rw [Array.getD_eq_getD_getElem?]
        by_cases hxi : i = x
        · subst hxi; rw [hl]; rfl
        · rw [if_neg hxi] at hx; exact hx
      omega
    have hclosed' : ∀ (j : Nat), (listed.setIfInBounds i true)[j]? = some true → ∀ (o : Oper), ops[j]? = some o → ∀ ed ∈ o.after.toList, Region.binds .any ed = true → (listed.setIfInBounds i true)[ed.on]? = some true := by
      intro j hj oj hoj ed hm hbd
      rw [stand_next hsz hilt]
      rcases (stand_next hsz hilt j).1 hj with h | rfl
      · exact .inl (hclosed j h oj hoj ed hm hbd)
      · rw [ho] at hoj; cases hoj; exact .inl (hed ed hm hbd)
    have hst' : ∀ {g2 : G} {v : AV} {s2 : St} {u : Value} {w2 : World}, Inv (CRof P gt) g2 s2 w2 → Le gL sL w1 g2 s2 w2 → V g2 s2 w2 v u → Esc sL s2 → Mid cl E S (fun j => listed[j]? = some true ∨ j = i) (put eL c.dst v) s2 →
        Stand P gt ops cl E S g s w a (listed.setIfInBounds i true) (a1.put o.dst u) w2 := by
      intro g2 v s2 u w2 hI2 hL2 hV hE2 hM2
      obtain ⟨p1, p2⟩ := put_size a1 o.dst u
      refine ⟨⟨g2, put eL c.dst v, s2, hI2, hL.trans hL2, ?_, Esc.trans hL.nb hE hE2, hM2.congr fun j => (stand_next hsz hilt j).symm⟩, by rw [p1, hts], by rw [p2, hdf], hclosed'⟩
      rw [hdst]
      exact VT_put (VT_mono hL2 hT) (by rw [hts, hn]; exact hdok) hV
    have hw := guard_ok (o := o) (ops := ops) (gd := c.guard) hT (by
      cases hg : o.guard with
      | none => rw [hg] at hgd; exact hgd
      | some jw =>
        obtain ⟨j, want⟩ := jw
        rw [hg] at hgd
        obtain ⟨oj, d, q1, q2, q3, q4⟩ := hgd
        exact ⟨oj, d, q1, q2, by rw [hts, hn]; exact q3, q4⟩)
    have hwants : wants eL c.guard = wants (E i) c.guard := by
      cases hg : c.guard with
      | none => rfl
      | some tw =>
        obtain ⟨t, wv⟩ := tw
        simp only [wants]
        rw [hreads t (by simp [Op.reads, hg])]
    have hopr : ∀ t ∈ c.op.tmps, eL.get t = (E i).get t := fun t ht => hreads t (by
      unfold Op.reads
      split
      · exact ht
      · exact List.mem_cons_of_mem _ ht)
    unfold wpOpIn
    simp only [ho]
    rw [hw, hwants]
    rcases evD1_cases (hcan.step i c hci) with ⟨hwt, hq, v, hv, he⟩ | ⟨hwf, he, hs⟩
    · rw [if_pos hwt]
      -- the same operation, from where this order stands
      have hclo : ∀ i j, listed[j]? = some true → ((predsGo ops.toList []).getD j 0).testBit i = true → listed[i]? = some true := fun i j hj hbit => by
        have hjlt : j < listed.size := (Array.getElem?_eq_some_iff.1 hj).1
        have hoj := Array.getElem?_eq_getElem (xs := ops) (i := j) (by omega)
        exact preds_done hb hclosed j _ hoj (hclosed j hj _ hoj) i hbit
      obtain ⟨s2, hv2, h0, h2⟩ : ∃ s2, evOp self eL sL c.op = some (v, s2) ∧ (c.op.cls ≠ 2 → s2 = sL) ∧ (c.op.cls = 2 → s2 = S (i + 1)) := by
        rw [evOp_congr hopr]
        by_cases hc2 : c.op.cls = 2
        · have := hM.at2 hcan hci hc2 hnot hpre hpost
          subst this
          exact ⟨_, hv, fun h => absurd hc2 h, fun _ => rfl⟩
        · have hq' := hq.resolve_left hc2
          obtain ⟨k1, k2⟩ := evOp_quiet hc2 hq' hv
          by_cases hc0 : c.op.cls = 0
          · exact ⟨sL, k2 hc0 sL, fun _ => rfl, fun h => absurd h hc2⟩
          · have hc1 : c.op.cls = 1 := by
              have : c.op.cls ≤ 2 := by cases c.op <;> simp only [AOp.cls] <;> (try split) <;> omega
              omega
            obtain ⟨k, b1, b2, hsk⟩ := hM.at1 hcan hclo hci hc1 hpre hpost
            obtain ⟨q1, s'', q2⟩ := hcan.wok i c hci hc1 hwt v _ hv k b1 b2
            have := (evOp_quiet hc2 q1 q2).1
            subst this
            rw [hsk]
            exact ⟨_, q2, fun _ => rfl, fun h => absurd h hc2⟩
      have hord : c.op.cls = 2 → ∀ j d, cl[j]? = some d → d.op.cls = 2 → j ≠ i → (j < i ↔ listed[j]? = some true) := fun h j d hd hj hne => by
        rcases Nat.lt_trichotomy j i with hlt | rfl | hlt
        · exact ⟨fun _ => hpre j (two_ordered hcan hlt hd hci hj h), fun _ => hlt⟩
        · exact absurd rfl hne
        · exact ⟨fun hh => by omega, fun hLj => (hpost j hLj (two_ordered hcan hlt hci hd h hj)).elim⟩
      have hM2 := hM.put hcan hci hnot he h0 (fun h => ⟨h2 h, hord h⟩)
      cases hco : compOp P gt pop o with
      | none => rw [hop, hco] at hv2; simp [evOp] at hv2
      | some aop =>
        rw [hop, hco, Option.getD_some] at hv2
        refine op_ok (rd := rd) hS hN hX hI (hG.mono hL) hT hco hv2 _ Q ?_
        rintro u w2 ⟨g2, hI2, hL2, hV2, hE2⟩
        exact ih _ _ _ hsz' hcnt (hst' hI2 hL2 hV2 hE2 hM2)
    · rw [if_neg (by rw [hwf]; simp)]
      refine ⟨fun _ _ => trivial, ?_⟩
      have hord : c.op.cls = 2 → ∀ j d, cl[j]? = some d → d.op.cls = 2 → j ≠ i → (j < i ↔ listed[j]? = some true) := fun h j d hd hj hne => by
        rcases Nat.lt_trichotomy j i with hlt | rfl | hlt
        · exact ⟨fun _ => hpre j (two_ordered hcan hlt hd hci hj h), fun _ => hlt⟩
        · exact absurd rfl hne
        · exact ⟨fun hh => by omega, fun hLj => (hpost j hLj (two_ordered hcan hlt hci hd h hj)).elim⟩
      have hM2 := hM.put hcan hci hnot he (s2 := sL) (fun _ => rfl) (fun h => ⟨by rw [hs]; exact hM.at2 hcan hci h hnot hpre hpost, hord h⟩)
      exact ih _ _ _ hsz' hcnt (hst' hI (Le.refl _ _ _) (by simp [undef, Go.undef, V, VL]) (Esc.refl _) hM2)
end
end Go.Proofs.YtfaodjpibdhdjaaDoor.Am
