/-
  Regions that draw their order, in which an object is made that is first written at the end: it may be made at any time before.
-/
import Derived.Test.YtfaodjpibdhdjaaDoorAmDraw5
import Derived.Test.YtfaodjpibdhdjaaDoorAmAdopt
set_option linter.all false
set_option linter.unusedVariables false
set_option linter.unusedSimpArgs false
set_option linter.unusedSectionVars false
set_option linter.constructorNameAsVariable false
namespace Go.Proofs.YtfaodjpibdhdjaaDoor.Am
section
variable {rd : Option Nat} {P : Program} {gt : Nat → Option (List AV)} {prog : Nat → Option Fun} {self : Self}

theorem VT_gets {g : G} {s : St} {w : World} {e e' : Tr} {tmps : Array Value} (h : ∀ t, e'.get t = e.get t) (hT : VT g s w e tmps) : VT g s w e' tmps := ⟨hT.1, fun t => by rw [h]; exact hT.2 t⟩

theorem fuseAt_spec {ops : Array Oper} {i j d T m : Nat} {z : List AV} {v : X} (h : fuseAt P gt ops i j = some (d, T, z, m, v)) :
    ∃ oi oj z0 ts x, ops[i]? = some oi ∧ ops[j]? = some oj ∧ oi.op = .alloc T ∧ oi.dst = some d ∧ oi.guard = none ∧ oj.op = .store ts (.tmp d) x ∧ oj.dst = none ∧ oj.guard = none ∧ zeroT P T = some z0 ∧ z = z0.cells ∧ sizeT P ts = some m ∧ cvX gt x = some v := by
  unfold fuseAt at h
  split at h <;> try (cases h; done)
  rename_i oi oj hi hj
  split at h <;> try (cases h; done)
  rename_i T' d' ts d2 x e1 e2 e3 e4 e5 e6
  split at h <;> try (cases h; done)
  rename_i z0 m' v' h1 h2 h3
  split at h <;> try (cases h; done)
  rename_i hd
  subst hd
  cases h
  exact ⟨oi, oj, z0, ts, x, hi, hj, e1, e2, e3, e4, e5, e6, h1, rfl, h2, h3⟩

structure Fuse (P : Program) (gt : Nat → Option (List AV)) (ops : Array Oper) (cl : List Op) (i0 j0 d T m : Nat) (z : List AV) (vx : X) (n : Nat) : Prop where
  at_ : ∃ oi oj z0 ts x, ops[i0]? = some oi ∧ ops[j0]? = some oj ∧ oi.op = .alloc T ∧ oi.dst = some d ∧ oi.guard = none ∧ oj.op = .store ts (.tmp d) x ∧ oj.dst = none ∧ oj.guard = none ∧ zeroT P T = some z0 ∧ z = z0.cells ∧ sizeT P ts = some m ∧ cvX gt x = some vx
  lt : i0 < j0
  bit : ((predsGo ops.toList []).getD j0 0).testBit i0 = true
  dn : d < n
  reads : ∀ (k : Nat) (c : Op), (fuseL cl i0 j0 d T z m vx)[k]? = some c → d ∉ c.reads

theorem fuseL_get {cl : List Op} {i0 j0 d T m : Nat} {z : List AV} {vx : X} (hlt : i0 < j0) (hj : j0 < cl.length) (k : Nat) : (fuseL cl i0 j0 d T z m vx)[k]? = if k = j0 then some ⟨some d, .adp T z m vx, none⟩ else if k = i0 then some ⟨none, .mv (.c undef), none⟩ else cl[k]? := by
  unfold fuseL
  rw [List.getElem?_set]
  by_cases h1 : j0 = k
  · subst h1; simp [hj]
  · rw [if_neg h1, if_neg (Ne.symm h1), List.getElem?_set]
    by_cases h2 : i0 = k
    · subst h2; simp; omega
    · rw [if_neg h2, if_neg (Ne.symm h2)]

def Stand2 (P : Program) (gt : Nat → Option (List AV)) (ops : Array Oper) (cl : List Op) (E : Nat → Tr) (S : Nat → St) (i0 j0 d T : Nat) (z : List AV) (g : G) (s : St) (w : World) (a : Act) (listed : Array Bool) (a1 : Act) (w1 : World) : Prop :=
  (∃ gL eL sL eX, Inv (CRof P gt) gL sL w1 ∧ Le g s w gL sL w1 ∧ VT gL sL w1 eX a1.tmps ∧ (∀ t, t ≠ d → eX.get t = eL.get t) ∧ Esc s sL ∧ Mid cl E S (fun j => listed[j]? = some true) eL sL ∧
    (¬ (listed[i0]? = some true ∧ ¬ listed[j0]? = some true) → eX.get d = eL.get d) ∧
    ((listed[i0]? = some true ∧ ¬ listed[j0]? = some true) → ∃ b arr, a1.tmps.getD d Go.undef = .pointer (some ⟨b, 0, none⟩) ∧ Free gL sL w1 b ∧ w.heap.size ≤ b ∧ w1.heap[b]? = some (.cells arr T (0, 0)) ∧ ∀ g s w, VL g s w z arr.toList)) ∧
  a1.tmps.size = a.tmps.size ∧ a1.defers = a.defers ∧
  ∀ (j : Nat), listed[j]? = some true → ∀ (o : Oper), ops[j]? = some o → ∀ ed ∈ o.after.toList, Region.binds .any ed = true → listed[ed.on]? = some true

theorem anyF (hS : SelfOk P gt self) (hN : NamesOk P) (hX : Ctx P gt prog) {pop : Bool × Nat × String} {n : Nat} {ops : Array Oper} {cl : List Op} (hcl : compOps P gt pop n ops ops.toList = some cl) (hb : edgesBack 0 ops.toList = true)
    {i0 j0 d T m : Nat} {z : List AV} {vx : X} (hF : Fuse P gt ops cl i0 j0 d T m z vx n)
    {E : Nat → Tr} {S : Nat → St} {win : Nat → Nat × Nat} (hcan : Canon self (fuseL cl i0 j0 d T z m vx) E S (predsGo ops.toList []) win) {g : G} {s : St} {w : World} {a : Act} (hn : a.tmps.size = n) (hG : GT gt g w) {Q : Exit → Act → World → Prop}
    (hQ : ∀ a' w', OpsPost P gt g s w a (E (fuseL cl i0 j0 d T z m vx).length) (S (fuseL cl i0 j0 d T z m vx).length) a' w' → Q .normal a' w') :
    ∀ (fuel : Nat) (listed : Array Bool) (a1 : Act) (w1 : World), listed.size = ops.size → cnt ops.size listed ≤ fuel → Stand2 P gt ops (fuseL cl i0 j0 d T z m vx) E S i0 j0 d T z g s w a listed a1 w1 → wpAnyIn (fence rd) 0 P .any ops Q fuel listed a1 w1 := by
  obtain ⟨hlen, hget⟩ := compOps_get hcl
  obtain ⟨oi, oj, z0, ts, xo, q1, q2, q3, q4, q5, q6, q7, q8, q9, q10, q11, q12⟩ := hF.at_
  have hj0 : j0 < ops.size := (Array.getElem?_eq_some_iff.1 q2).1
  have hlenF : (fuseL cl i0 j0 d T z m vx).length = ops.size := by simp [fuseL, hlen]
  have hfg := fuseL_get (cl := cl) (d := d) (T := T) (m := m) (z := z) (vx := vx) hF.lt (by rw [hlen]; simpa using hj0)
  have hstand : ∀ (listed : Array Bool) (a1 : Act) (w1 : World), listed.size = ops.size → (∀ i, i < ops.size → listed[i]? = some true) → Stand2 P gt ops (fuseL cl i0 j0 d T z m vx) E S i0 j0 d T z g s w a listed a1 w1 → Stand P gt ops (fuseL cl i0 j0 d T z m vx) E S g s w a listed a1 w1 := by
    rintro listed a1 w1 hsz hall ⟨⟨gL, eL, sL, eX, hI, hL, hT, hE1, hE, hM, hE2, _⟩, h2, h3, h4⟩
    refine ⟨⟨gL, eL, sL, hI, hL, VT_gets (fun t => ?_) hT, hE, hM⟩, h2, h3, h4⟩
    by_cases ht : t = d
    · subst ht; exact (hE2 fun hh => hh.2 (hall j0 hj0)).symm
    · exact (hE1 t ht).symm
  have hend : ∀ (listed : Array Bool) (a1 : Act) (w1 : World), listed.size = ops.size → Stand2 P gt ops (fuseL cl i0 j0 d T z m vx) E S i0 j0 d T z g s w a listed a1 w1 → Region.ready .any ops listed = [] → Q .normal a1 w1 := fun listed a1 w1 hsz hst hr =>
    hQ a1 w1 (stand_end hcan hlenF (hstand listed a1 w1 hsz (all_listed hb hsz hr) hst) (all_listed hb hsz hr) hsz)
  intro fuel
  induction fuel with
  | zero =>
    intro listed a1 w1 hsz hc hst
    have hr : Region.ready .any ops listed = [] := by
      cases hr : Region.ready .any ops listed with
      | nil => rfl
      | cons i l =>
        exfalso
        obtain ⟨o, ho, hl, _⟩ := ready_spec (i := i) (by rw [hr]; simp) hsz
        have hi := (Array.getElem?_eq_some_iff.1 ho).1
        have h0 : cnt ops.size listed = 0 := by omega
        unfold cnt at h0
        have := List.countP_eq_zero.1 h0 i (List.mem_range.2 hi)
        rw [Array.getD_eq_getD_getElem?, hl] at this
        simp at this
    exact ⟨hr, hend listed a1 w1 hsz hst hr⟩
  | succ fuel ih =>
    intro listed a1 w1 hsz hc hst
    refine ⟨hend listed a1 w1 hsz hst, fun i hi => ?_⟩
    obtain ⟨o, ho, hl, hed⟩ := ready_spec hi hsz
    have hilt := (Array.getElem?_eq_some_iff.1 ho).1
    obtain ⟨⟨gL, eL, sL, eX, hI, hL, hT, hE1, hE, hM, hE2, hP⟩, hts, hdf, hclosed⟩ := hst
    have hnot : ¬ (listed[i]? = some true) := by rw [hl]; simp
    have hpre : ∀ j, ((predsGo ops.toList []).getD i 0).testBit j = true → listed[j]? = some true := preds_done hb hclosed i o ho hed
    have hclo : ∀ i j, listed[j]? = some true → ((predsGo ops.toList []).getD j 0).testBit i = true → listed[i]? = some true := fun i j hj hbit => by
      have hjlt : j < listed.size := (Array.getElem?_eq_some_iff.1 hj).1
      have hoj := Array.getElem?_eq_getElem (xs := ops) (i := j) (by omega)
      exact preds_done hb hclosed j _ hoj (hclosed j hj _ hoj) i hbit
    have hpost : ∀ j, listed[j]? = some true → ((predsGo ops.toList []).getD j 0).testBit i = true → False := fun j hj hbit => hnot (hclo i j hj hbit)
    have hsz' : (listed.setIfInBounds i true).size = ops.size := by simpa using hsz
    have hcnt : cnt ops.size (listed.setIfInBounds i true) ≤ fuel := by
      have : cnt ops.size (listed.setIfInBounds i true) < cnt ops.size listed := by
        unfold cnt
        refine countP_lt (List.mem_range.2 hilt) (fun x hx => ?_) (by rw [Array.getD_eq_getD_getElem?, hl]; rfl) (by rw [Array.getD_eq_getD_getElem?, (stand_next hsz hilt i).2 (.inr rfl)]; rfl)
        rw [Array.getD_eq_getD_getElem?, Array.getElem?_setIfInBounds] at hx
        rw [Array.getD_eq_getD_getElem?]
        by_cases hxi : i = x
        · subst hxi; rw [hl]; rfl
        · rw [if_neg hxi] at hx; exact hx
      omega
    have hclosed' : ∀ (j : Nat), (listed.setIfInBounds i true)[j]? = some true → ∀ (o : Oper), ops[j]? = some o → ∀ ed ∈ o.after.toList, Region.binds .any ed = true → (listed.setIfInBounds i true)[ed.on]? = some true := by
      intro j hj oj hoj ed hm hbd
      rw [stand_next hsz hilt]
      rcases (stand_next hsz hilt j).1 hj with h | rfl
      · exact .inl (hclosed j h oj hoj ed hm hbd)
      · rw [ho] at hoj; cases hoj; exact .inl (hed ed hm hbd)
    have hj0not : i = i0 → ¬ (listed[j0]? = some true) := fun hi0 hj => by subst hi0; exact hpost j0 hj hF.bit
    by_cases hk1 : i = i0
    · -- the object is made
      subst hk1
      rw [q1] at ho; cases ho
      have hci : (fuseL cl i j0 d T z m vx)[i]? = some ⟨none, .mv (.c undef), none⟩ := by rw [hfg, if_neg (by have := hF.lt; omega), if_pos rfl]
      have hstep := hcan.step i _ hci
      have hEe : E (i + 1) = E i ∧ S (i + 1) = S i := by
        simp only [evD1, wants, if_true, AOp.cls, quiet, evOp, put] at hstep
        simp at hstep
        exact ⟨hstep.1.symm, hstep.2.symm⟩
      have hM2 := hM.put hcan hci hnot (v := undef) (by rw [hEe.1]; rfl) (s2 := sL) (fun _ => rfl) (fun h => by simp [AOp.cls] at h)
      obtain ⟨zv, z1, z2⟩ := run_zeroValue (P := P) q9
      have hgr : Grown w1 (w1.alloc (.cells zv.cells T)) := ⟨rfl, rfl, by simp, fun k hk => heap_alloc_old w1 _ hk⟩
      have hLg := Le.grown hI hgr
      obtain ⟨p1, p2⟩ := put_size a1 (some d) (.pointer (some ⟨w1.heap.size, 0, none⟩))
      have hVep : V gL sL (w1.alloc (.cells zv.cells T)) (.ep [] 0 .shut) (.pointer (some ⟨w1.heap.size, 0, none⟩)) := by
        simp only [V]
        exact ⟨_, 0, [], rfl, trivial, fun _ => ⟨by simp [VL], fun j v hj => by simp at hj, .inr (Nat.zero_le _)⟩⟩
      have hst' : Stand2 P gt ops (fuseL cl i j0 d T z m vx) E S i j0 d T z g s w a (listed.setIfInBounds i true) (a1.put oi.dst (.pointer (some ⟨w1.heap.size, 0, none⟩))) (w1.alloc (.cells zv.cells T)) := by
        rw [q4]
        refine ⟨⟨gL, eL, sL, put eX (some d) (.ep [] 0 .shut), hI.grown hgr, hL.trans hLg, VT_put (VT_mono hLg hT) (by simp [dstOk, Nat.blt_eq]; rw [hts, hn]; exact hF.dn) hVep, fun t ht => ?_, hE, hM2.congr fun j => (stand_next hsz hilt j).symm, fun hno => ?_, fun _ => ?_⟩, by rw [p1, hts], by rw [p2, hdf], hclosed'⟩
        · simp only [put]
          rw [get_set 10 eX d _ (by have := hF.dn; have := hT.1; rw [hts, hn] at this; omega), if_neg ht]
          exact hE1 t ht
        · exfalso
          refine hno ⟨(stand_next hsz hilt i).2 (.inr rfl), fun hj => ?_⟩
          rcases (stand_next hsz hilt j0).1 hj with h | h
          · exact hj0not rfl h
          · have := hF.lt; omega
        · refine ⟨w1.heap.size, zv.cells, ?_, Free.new hI _, hL.size, heap_alloc_new w1 _, fun g s w => by rw [q10]; exact V_cells (z2 g s w)⟩
          have hlt : d < a1.tmps.size := by rw [hts, hn]; exact hF.dn
          simp [Act.put, Array.getD_eq_getD_getElem?, hlt]
      unfold wpOpIn
      simp only [q1]
      rw [if_pos (by simp [Region.wanted, q5])]
      refine does_value (rd := rd) (by simp [q3]) (w' := w1.alloc (.cells zv.cells T)) (v := .pointer (some ⟨w1.heap.size, 0, none⟩)) (K := fun v w' => v = .pointer (some ⟨w1.heap.size, 0, none⟩) ∧ w' = w1.alloc (.cells zv.cells T)) ?_ ⟨rfl, rfl⟩ _ Q ?_
      · simp only [execOp, q3]
        refine val_of ?_
        simp [Instr.alloc, z1, run_newVar]
      · rintro u w2 ⟨rfl, rfl⟩
        exact ih _ _ _ hsz' hcnt hst'
    by_cases hk2 : i = j0
    · -- it is written
      subst hk2
      rw [q2] at ho; cases ho
      have hi0 : listed[i0]? = some true := hpre i0 hF.bit
      obtain ⟨b, arr, hraw, hfree, hbw, hheap, hzz⟩ := hP ⟨hi0, hnot⟩
      have hci : (fuseL cl i0 i d T z m vx)[i]? = some ⟨some d, .adp T z m vx, none⟩ := by rw [hfg, if_pos rfl]
      have hsL := hM.at2 hcan hci rfl hnot hpre hpost
      have hreads := hM.reads hcan hci hnot hpre hpost
      have hstep := hcan.step i _ hci
      obtain ⟨v, hv, hEe⟩ : ∃ v, evOp self (E i) (S i) (.adp T z m vx) = some (v, S (i + 1)) ∧ E (i + 1) = put (E i) (some d) v := by
        rcases evD1_cases hstep with ⟨_, _, v, h1, h2⟩ | ⟨h1, _⟩
        · exact ⟨v, h1, h2⟩
        · simp [wants] at h1
      have hord : ∀ j e, (fuseL cl i0 i d T z m vx)[j]? = some e → e.op.cls = 2 → j ≠ i → (j < i ↔ listed[j]? = some true) := fun j e hd hj hne => by
        rcases Nat.lt_trichotomy j i with hlt | rfl | hlt
        · exact ⟨fun _ => hpre j (two_ordered hcan hlt hd hci hj rfl), fun _ => hlt⟩
        · exact absurd rfl hne
        · exact ⟨fun hh => by omega, fun hLj => (hpost j hLj (two_ordered hcan hlt hci hd rfl hj)).elim⟩
      have hM2 := hM.put hcan hci hnot hEe (s2 := S (i + 1)) (fun h => absurd rfl h) (fun _ => ⟨rfl, hord⟩)
      simp only [evOp] at hv
      split at hv <;> try (cases hv; done)
      rename_i s3 hs3
      rw [← hsL] at hs3 hv
      cases hv
      have hvx : vx.ev (E i) = vx.ev eX := by
        refine (X.ev_congr fun t ht => ?_).symm
        have hdr : t ≠ d := fun hh => hF.reads i _ hci (by subst hh; simpa [Op.reads, AOp.tmps] using ht)
        rw [hE1 t hdr]
        exact hreads t (by simpa [Op.reads, AOp.tmps] using ht)
      rw [hvx] at hs3
      have hVx : V gL sL w1 (vx.ev eX) (a1.eval xo) := cvX_ok (hG.mono hL) hT q12
      have hI2 := Inv.adopt hI hfree hheap (hzz gL sL w1)
      have hL0 := Le0.adopt hI b (.cells T z)
      have hVp : V (gL.adopt sL b) (sL.new (.cells T z)) w1 (.p sL.nb 0) (.pointer (some ⟨b, 0, none⟩)) := by
        simp [V, St.new, G.adopt]
      obtain ⟨w', e1, g3, hI3, hL3, _, hE3⟩ := st_ok (P := P) hI2 q11 hVp (V_mono0 hL0 _ _ hVx) hs3
      have hLall : Le g s w g3 (S (i + 1)) w' := Le.adopt hL hI hbw hL3
      have hEall : Esc s (S (i + 1)) := Esc.trans hL.nb hE (Esc.trans (by simp [St.new]) (esc_new sL _) hE3)
      have hst' : Stand2 P gt ops (fuseL cl i0 i d T z m vx) E S i0 i d T z g s w a (listed.setIfInBounds i true) (a1.put oj.dst Go.undef) w' := by
        rw [q7]
        have hgd : ∀ t, (put eX (some d) (.p sL.nb 0)).get t = if t = d then .p sL.nb 0 else eX.get t := fun t => by
          simp only [put]
          rw [get_set 10 eX d _ (by have := hF.dn; have := hT.1; rw [hts, hn] at this; omega)]
        have hgd2 : ∀ t, (put eL (some d) (.p sL.nb 0)).get t = if t = d then .p sL.nb 0 else eL.get t := fun t => by
          simp only [put]
          rw [get_set 10 eL d _ (by have := hF.dn; have := hT.1; rw [hts, hn] at this; omega)]
        refine ⟨⟨g3, put eL (some d) (.p sL.nb 0), S (i + 1), put eX (some d) (.p sL.nb 0), hI3, hLall, ⟨hT.1, fun t => ?_⟩, fun t ht => ?_, hEall, hM2.congr fun j => (stand_next hsz hilt j).symm, fun _ => ?_, fun hh => ?_⟩, hts, hdf, hclosed'⟩
        · rw [hgd]
          by_cases ht : t = d
          · subst ht; rw [if_pos rfl]
            show V g3 (S (i + 1)) w' _ (a1.tmps.getD t Go.undef)
            rw [hraw]; exact V_mono hL3 _ _ hVp
          · rw [if_neg ht]; exact V_mono hL3 _ _ (V_mono0 hL0 _ _ (hT.2 t))
        · rw [hgd, hgd2, if_neg ht, if_neg ht]; exact hE1 t ht
        · rw [hgd, hgd2, if_pos rfl, if_pos rfl]
        · exact absurd ((stand_next hsz hilt i).2 (.inr rfl)) hh.2
      unfold wpOpIn
      simp only [q2]
      rw [if_pos (by simp [Region.wanted, q8])]
      refine does_skip (rd := rd) (by simp [q6]) (w' := w') (K := fun v w2 => v = Go.undef ∧ w2 = w') ?_ ⟨rfl, rfl⟩ _ Q ?_
      · simp only [execOp, q6]
        have he : a1.eval (.tmp d) = .pointer (some ⟨b, 0, none⟩) := hraw
        simp [he, e1]
      · rintro u w2 ⟨rfl, rfl⟩
        exact ih _ _ _ hsz' hcnt hst'
    -- any other operation
    obtain ⟨c, hci0, hdst, hop, hdok, hgd⟩ := hget i o (by simpa using ho)
    have hci : (fuseL cl i0 j0 d T z m vx)[i]? = some c := by rw [hfg, if_neg hk2, if_neg hk1]; exact hci0
    have hreads := hM.reads hcan hci hnot hpre hpost
    have hnd : d ∉ c.reads := hF.reads i c hci
    have hcd : c.dst ≠ some d := fun hh => hk2 (hcan.unique hci (by rw [hfg, if_pos rfl]) hh rfl)
    have hod : o.dst ≠ some d := by rw [← hdst]; exact hcd
    have hreadX : ∀ t ∈ c.reads, eX.get t = (E i).get t := fun t ht => by
      rw [hE1 t fun hh => hnd (hh ▸ ht)]; exact hreads t ht
    have hpend : ((listed.setIfInBounds i true)[i0]? = some true ∧ ¬ (listed.setIfInBounds i true)[j0]? = some true) ↔ (listed[i0]? = some true ∧ ¬ listed[j0]? = some true) := by
      rw [stand_next hsz hilt, stand_next hsz hilt]
      constructor
      · rintro ⟨h1 | h1, h2⟩
        · exact ⟨h1, fun h => h2 (.inl h)⟩
        · exact absurd h1.symm hk1
      · rintro ⟨h1, h2⟩
        exact ⟨.inl h1, fun h => h.elim h2 fun h => hk2 h.symm⟩
    have hst' : ∀ {g2 : G} {v : AV} {s2 : St} {u : Value} {w2 : World}, Inv (CRof P gt) g2 s2 w2 → Le gL sL w1 g2 s2 w2 → V g2 s2 w2 v u → Esc sL s2 → Mid (fuseL cl i0 j0 d T z m vx) E S (fun j => listed[j]? = some true ∨ j = i) (put eL c.dst v) s2 →
        Stand2 P gt ops (fuseL cl i0 j0 d T z m vx) E S i0 j0 d T z g s w a (listed.setIfInBounds i true) (a1.put o.dst u) w2 := by
      intro g2 v s2 u w2 hI2 hL2 hV hEs hM2
      obtain ⟨p1, p2⟩ := put_size a1 o.dst u
      have hX2 : ∀ t, (put eX c.dst v).get t = if c.dst = some t then v else eX.get t := fun t => put_get (hcan.small i c · hci) t
      have hL2g : ∀ t, (put eL c.dst v).get t = if c.dst = some t then v else eL.get t := fun t => put_get (hcan.small i c · hci) t
      refine ⟨⟨g2, put eL c.dst v, s2, put eX c.dst v, hI2, hL.trans hL2, ?_, fun t ht => ?_, Esc.trans hL.nb hE hEs, hM2.congr fun j => (stand_next hsz hilt j).symm, fun hno => ?_, fun hh => ?_⟩, by rw [p1, hts], by rw [p2, hdf], hclosed'⟩
      · rw [hdst]
        exact VT_put (VT_mono hL2 hT) (by rw [hts, hn]; exact hdok) hV
      · rw [hX2, hL2g]
        split
        · rfl
        · exact hE1 t ht
      · rw [hX2, hL2g, if_neg hcd, if_neg hcd]
        exact hE2 fun hh => hno (hpend.2 hh)
      · obtain ⟨b, arr, r1, r2, r3, r4, r5⟩ := hP (hpend.1 hh)
        obtain ⟨f1, f2⟩ := r2.mono hL2
        refine ⟨b, arr, ?_, f1, r3, by rw [f2]; exact r4, r5⟩
        cases hod2 : o.dst with
        | none => simpa [Act.put] using r1
        | some t =>
          have htd : t ≠ d := fun hh => hod (by rw [hod2, hh])
          simp only [Act.put]
          rw [Array.getD_eq_getD_getElem?] at r1 ⊢
          rw [Array.getElem?_setIfInBounds]
          rw [if_neg htd]; exact r1
    have hw := guard_ok (o := o) (ops := ops) (gd := c.guard) hT (by
      cases hg : o.guard with
      | none => rw [hg] at hgd; exact hgd
      | some jw =>
        obtain ⟨j, want⟩ := jw
        rw [hg] at hgd
        obtain ⟨oj, d, q1, q2, q3, q4⟩ := hgd
        exact ⟨oj, d, q1, q2, by rw [hts, hn]; exact q3, q4⟩)
    have hwants : wants eX c.guard = wants (E i) c.guard := by
      cases hg : c.guard with
      | none => rfl
      | some tw =>
        obtain ⟨t, wv⟩ := tw
        simp only [wants]
        rw [hreadX t (by simp [Op.reads, hg])]
    have hopr : ∀ t ∈ c.op.tmps, eX.get t = (E i).get t := fun t ht => hreadX t (by
      unfold Op.reads
      split
      · exact ht
      · exact List.mem_cons_of_mem _ ht)
    unfold wpOpIn
    simp only [ho]
    rw [hw, hwants]
    rcases evD1_cases (hcan.step i c hci) with ⟨hwt, hq, v, hv, he⟩ | ⟨hwf, he, hs⟩
    · rw [if_pos hwt]
      obtain ⟨s2, hv2, h0, h2⟩ : ∃ s2, evOp self eX sL c.op = some (v, s2) ∧ (c.op.cls ≠ 2 → s2 = sL) ∧ (c.op.cls = 2 → s2 = S (i + 1)) := by
        rw [evOp_congr hopr]
        by_cases hc2 : c.op.cls = 2
        · have := hM.at2 hcan hci hc2 hnot hpre hpost
          subst this
          exact ⟨_, hv, fun h => absurd hc2 h, fun _ => rfl⟩
        · have hq' := hq.resolve_left hc2
          obtain ⟨k1, k2⟩ := evOp_quiet hc2 hq' hv
          by_cases hc0 : c.op.cls = 0
          · exact ⟨sL, k2 hc0 sL, fun _ => rfl, fun h => absurd h hc2⟩
          · have hc1 : c.op.cls = 1 := by
              have : c.op.cls ≤ 2 := by cases c.op <;> simp only [AOp.cls] <;> (try split) <;> omega
              omega
            obtain ⟨k, b1, b2, hsk⟩ := hM.at1 hcan hclo hci hc1 hpre hpost
            obtain ⟨q1, s'', q2⟩ := hcan.wok i c hci hc1 hwt v _ hv k b1 b2
            have := (evOp_quiet hc2 q1 q2).1
            subst this
            rw [hsk]
            exact ⟨_, q2, fun _ => rfl, fun h => absurd h hc2⟩
      have hord : c.op.cls = 2 → ∀ j e, (fuseL cl i0 j0 d T z m vx)[j]? = some e → e.op.cls = 2 → j ≠ i → (j < i ↔ listed[j]? = some true) := fun h j e hd hj hne => by
        rcases Nat.lt_trichotomy j i with hlt | rfl | hlt
        · exact ⟨fun _ => hpre j (two_ordered hcan hlt hd hci hj h), fun _ => hlt⟩
        · exact absurd rfl hne
        · exact ⟨fun hh => by omega, fun hLj => (hpost j hLj (two_ordered hcan hlt hci hd h hj)).elim⟩
      have hM2 := hM.put hcan hci hnot he h0 (fun h => ⟨h2 h, hord h⟩)
      cases hco : compOp P gt pop o with
      | none => rw [hop, hco] at hv2; simp [evOp] at hv2
      | some aop =>
        rw [hop, hco, Option.getD_some] at hv2
        refine op_ok (rd := rd) hS hN hX hI (hG.mono hL) hT hco hv2 _ Q ?_
        rintro u w2 ⟨g2, hI2, hL2, hV2, hEs⟩
        exact ih _ _ _ hsz' hcnt (hst' hI2 hL2 hV2 hEs hM2)
    · rw [if_neg (by rw [hwf]; simp)]
      refine ⟨fun _ _ => trivial, ?_⟩
      have hord : c.op.cls = 2 → ∀ j e, (fuseL cl i0 j0 d T z m vx)[j]? = some e → e.op.cls = 2 → j ≠ i → (j < i ↔ listed[j]? = some true) := fun h j e hd hj hne => by
        rcases Nat.lt_trichotomy j i with hlt | rfl | hlt
        · exact ⟨fun _ => hpre j (two_ordered hcan hlt hd hci hj h), fun _ => hlt⟩
        · exact absurd rfl hne
        · exact ⟨fun hh => by omega, fun hLj => (hpost j hLj (two_ordered hcan hlt hci hd h hj)).elim⟩
      have hM2 := hM.put hcan hci hnot he (s2 := sL) (fun _ => rfl) (fun h => ⟨by rw [hs]; exact hM.at2 hcan hci h hnot hpre hpost, hord h⟩)
      exact ih _ _ _ hsz' hcnt (hst' hI (Le.refl _ _ _) (by simp [undef, Go.undef, V, VL]) (Esc.refl _) hM2)

theorem fuse_of {n i j d T m : Nat} {z : List AV} {v : X} {ops : Array Oper} {cl : List Op} (h : fuseAt P gt ops i j = some (d, T, z, m, v)) (hk : fuseOk (predsGo ops.toList []) i j d n (fuseL cl i j d T z m v) = true) : Fuse P gt ops cl i j d T m z v n := by
  unfold fuseOk at hk
  simp only [Bool.and_eq_true, Nat.blt_eq] at hk
  obtain ⟨h1, h2, h3, h4⟩ := hk
  refine ⟨fuseAt_spec h, h1, h2, h3, fun k c hc => ?_⟩
  have := List.all_eq_true.1 h4 c (List.mem_of_getElem? hc)
  simpa using this

theorem regF_ok (hS : SelfOk P gt self) (hN : NamesOk P) (hX : Ctx P gt prog) {pop : Bool × Nat × String} {n id : Nat} {ops : Array Oper} {cl0 : List Op} (hcl : compOps P gt pop n ops ops.toList = some cl0)
    {i0 j0 d0 T m : Nat} {z : List AV} {vx : X} (hF : Fuse P gt ops cl0 i0 j0 d0 T m z vx n) {wins : List (Nat × Nat × Nat)} (hd : drawOk ops (fuseL cl0 i0 j0 d0 T z m vx) wins = true)
    {e e' : Tr} {s s' : St} (h : evD self (fuseL cl0 i0 j0 d0 T z m vx) wins e s = some (e', s')) {g : G} {w : World} {a : Act} (hI : Inv (CRof P gt) g s w) (hG : GT gt g w) (hT : VT g s w e a.tmps) (hz : a.tmps.size = n) (hn : n < 1000) (hm : P.follows .mixedOrders = true)
    {Q : Exit → Act → World → Prop} (hQ : ∀ a' w', OpsPost P gt g s w a e' s' a' w' → Q .normal a' w') : (Code.region id ops true).wpIn (fence rd) 0 P Q a w := by
  obtain ⟨hlen, hget⟩ := compOps_get hcl
  have hj0 : j0 < ops.size := by obtain ⟨_, _, _, _, _, _, q, _⟩ := hF.at_; exact (Array.getElem?_eq_some_iff.1 q).1
  have hfg := fuseL_get (cl := cl0) (d := d0) (T := T) (m := m) (z := z) (vx := vx) hF.lt (by rw [hlen]; simpa using hj0)
  have hlenF : (fuseL cl0 i0 j0 d0 T z m vx).length = ops.size := by simp [fuseL, hlen]
  have hFd := hF.dn
  generalize hcl' : fuseL cl0 i0 j0 d0 T z m vx = cl at *
  unfold drawOk at hd
  rw [Bool.and_eq_true, Bool.and_eq_true] at hd
  obtain ⟨⟨hb, hall⟩, hsane⟩ := hd
  unfold evD at h
  split at h <;> try (cases h; done)
  rename_i tr htr
  split at h <;> try (cases h; done)
  rename_i hchk
  obtain ⟨E, S, e0, s0, hstep, htrace, hlast⟩ := traceD_split htr
  rw [hlast] at h
  have hes := Option.some.inj h
  have e1 : E cl.length = e' := congrArg Prod.fst hes
  have s1 : S cl.length = s' := congrArg Prod.snd hes
  have hwins := chkD_spec htrace hsane hchk
  have hcan : Canon self cl E S (predsGo ops.toList []) (winF wins) := by
    refine ⟨hstep, fun i c d hc hcd => ?_, fun i j o p hij ho hp => ?_, fun i c hc hcls => ?_, fun i hi => ?_⟩
    · rw [hfg] at hc
      by_cases h1 : i = j0
      · rw [if_pos h1] at hc; cases hc; cases hcd; omega
      · rw [if_neg h1] at hc
        by_cases h2 : i = i0
        · rw [if_pos h2] at hc; cases hc; cases hcd
        · rw [if_neg h2] at hc
          have hi := (List.getElem?_eq_some_iff.1 hc).1
          obtain ⟨c', k1, k2, _, k4, _⟩ := hget i _ (List.getElem?_eq_getElem (by omega))
          rw [hc] at k1; cases k1
          rw [← k2, hcd] at k4
          have : d < n := by simpa [dstOk, Nat.blt_eq] using k4
          omega
    · have := drawAll_spec hall i j o p hij ho hp
      simpa using this
    · rcases winF_mem (wins := wins) (i := i) with hw | hw
      · intro hwt v s2 hv k hk1 hk2
        rw [hw] at hk1 hk2
        have : k = i := by simp only at hk1 hk2; omega
        subst this
        refine ⟨?_, s2, hv⟩
        rcases evD1_cases (hstep k c hc) with ⟨_, hq, _⟩ | ⟨hwf, _⟩
        · rcases hq with hq | hq
          · omega
          · exact hq
        · rw [hwt] at hwf; cases hwf
      · exact hwins _ hw c hc
    · rcases winF_mem (wins := wins) (i := i) with hw | hw
      · rw [hw]; simp only; omega
      · have := List.all_eq_true.1 hsane _ hw
        simp only [Bool.and_eq_true] at this
        have h1 := Nat.le_of_ble_eq_true this.1
        have h2 := Nat.le_of_ble_eq_true this.2.1
        have h3 := Nat.le_of_ble_eq_true this.2.2
        exact ⟨h1, h2, h3⟩
  subst e1 s1
  subst hcl'
  refine wpIn_region_any hm (anyF hS hN hX hcl hb hF hcan hz hG hQ ops.size _ _ _ (by simp) ?_ ?_)
  · unfold cnt
    exact Nat.le_trans List.countP_le_length (by simp)
  · have hI' : Inv (CRof P gt) g s { w with drawn := w.drawn + 1 } := Inv.heap (w := w) rfl hI
    have hL' : Le g s w g s { w with drawn := w.drawn + 1 } := Le.heap (w := w) rfl
    refine ⟨⟨g, e, s, e, hI', hL', VT_mono hL' hT, fun _ _ => rfl, Esc.refl _, ?_, fun _ => rfl, fun hh => absurd hh.1 rep_false⟩, rfl, rfl, fun j hj => absurd hj rep_false⟩
    refine ⟨fun t j c hL => absurd hL rep_false, fun t _ => by rw [e0], fun k hk hh => ?_⟩
    rw [← s0]
    refine (hcan.state (Nat.zero_le _) hk fun j c _ hlt hc hj => ?_).symm
    exact absurd ((hh j c hc hj).1 hlt) rep_false
end
end Go.Proofs.YtfaodjpibdhdjaaDoor.Am
