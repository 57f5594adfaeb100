/-
  Regions and code.
-/
import Derived.Test.YtfaodjpibdhdjaaDoorAmCall2
import Derived.Test.YtfaodjpibdhdjaaDoorAmRow
import Derived.Test.YtfaodjpibdhdjaaDoorAmCut
import Derived.Test.YtfaodjpibdhdjaaDoorAmBeq
set_option linter.all false
set_option linter.unusedVariables false
set_option linter.unusedSimpArgs false
set_option linter.unusedSectionVars false
set_option linter.constructorNameAsVariable false
namespace Go.Proofs.YtfaodjpibdhdjaaDoor.Am
section
variable {rd : Option Nat} {P : Program} {gt : Nat → Option (List AV)} {prog : Nat → Option Fun} {self : Self} {g : G} {s s' : St} {w : World} {e e' : Tr} {a : Act} {o : Oper} {r : AV}

theorem op_ok0 (hS : SelfOk P gt self) (hN : NamesOk P) (hX : Ctx P gt prog) (hI : Inv (CRof P gt) g s w) (hG : GT gt g w) (hT : VT g s w e a.tmps) {pop : Bool} {aop : AOp}
    (hc : compOp0 P gt pop o = some aop) (h : evOp self e s aop = some (r, s')) : Does rd P o a w (Good (CRof P gt) g s w s' r) := by
  by_cases hcall : ∃ c, o.op = .call c
  · obtain ⟨c, ho⟩ := hcall
    exact op_call hS hN hX hI hG hT ho hc h
  · exact op_simple hI hG hT hc (fun c hh => hcall ⟨c, hh⟩) h

theorem invTab_of {name : String} {t f : Nat} (hf : (invTab P name).lookup t = some f) : invOf P name t = some f := by
  unfold invTab at hf
  have : ∀ {l : List (Nat × Nat)}, l.lookup t = some f → (t, f) ∈ l := by
    intro l
    induction l with
    | nil => intro h; simp at h
    | cons q l ih =>
      obtain ⟨a, c⟩ := q
      intro h
      rw [List.lookup_cons] at h
      split at h
      · rename_i he
        have : t = a := by simpa using he
        subst this
        cases h; simp
      · exact List.mem_cons_of_mem _ (ih h)
  have := this hf
  rw [List.mem_filterMap] at this
  obtain ⟨t', _, ht'⟩ := this
  rw [Option.map_eq_some_iff] at ht'
  obtain ⟨f', h1, h2⟩ := ht'
  cases h2
  exact h1

theorem nilAhead_run {name : String} {t f : Nat} {u : Value} (hinv : invOf P name t = some f) (n : Nat) : (nilAhead (n + 1) t u name).run P w = .ok (some false) w := by
  unfold invOf at hinv
  split at hinv <;> try (cases hinv; done)
  rename_i i d hi hd
  split at hinv <;> try (cases hinv; done)
  rename_i m hm
  split at hinv <;> try (cases hinv; done)
  rename_i f' pr hpath hfunc
  have hfo : (followBlind m.path.toList t (some u)).run P w = .ok (.ok (t, some u)) w := by rw [hpath]; rfl
  simp only [nilAhead, Sem.run_bind, run_typeInfo hi, Result.andThen_ok, hm, hfo, hfunc]
  cases pr with
  | true => rfl
  | false =>
    simp only [Sem.run_bind, run_underlying hd, Result.andThen_ok]
    cases d <;> first | rfl | (simp only at hinv; cases hinv; done)

theorem bothI_some {s : St} {oA oB : Option (AV × St)} (h : bothI s oA oB = some (r, s')) : ∃ tA tB, oA = some (r, tA) ∧ oB = some (r, tB) ∧ s' = leave s tA r ∧ s' = leave s tB r := by
  unfold bothI at h
  split at h <;> try (cases h; done)
  rename_i rA tA rB tB
  split at h <;> try (cases h; done)
  rename_i hc
  cases h
  have h1 := beqA_eq _ _ hc.1
  subst h1
  exact ⟨tA, tB, rfl, rfl, rfl, beqSt_eq hc.2⟩

/-- A call to which the newest slice of a row goes: both ways, as to its capacity, come to the same. -/
theorem callI_ok {f : Nat} {args : List X} {us : List Value} (hS : SelfOk P gt self) (hI : Inv (CRof P gt) g s w) (hG : GT gt g w) (hus : VL g s w (evX e args) us) (h : evOp self e s (.callI f args) = some (r, s')) :
    Calls P f us.toArray w fun ex w' => ∃ v, ex = .returned v ∧ Good (CRof P gt) g s w s' r v w' := by
  simp only [evOp] at h
  split at h <;> try (cases h; done)
  rename_i x l hev
  rw [hev] at hus
  split at h <;> try (cases h; done)
  rename_i vs s1 hp
  simp only [VL] at hus
  obtain ⟨v, us, rfl, hv, hus⟩ := hus
  obtain ⟨g1, hI1, hL1, hV1, hE1⟩ := pubL_ok hI hus hp
  have hv1 := V_mono hL1 _ _ hv
  split at h
  · rename_i es xs k T hsp
    unfold splitT at hsp
    split at hsp <;> try (cases hsp; done)
    rename_i es' xs' k' ve
    split at hsp <;> try (cases hsp; done)
    rename_i fr0 ve' pu T' ht
    split at hsp <;> try (cases hsp; done)
    rename_i hc
    obtain ⟨rfl, rfl, rfl⟩ := hc
    cases hsp
    obtain ⟨tA, tB, hA, hB, rfl, hsB⟩ := bothI_some h
    obtain ⟨cap, rfl, h1, h2, key⟩ := tok_free hI1 hv1 ht
    obtain ⟨hIk, hLk, hEk⟩ := kill_ok hI1 ht
    have fin : ∀ {g2 : G} {s2 : St} {bx : AV} {t : St}, Inv (CRof P gt) g2 s2 w → Le g1 ({ s1.killTok k with lo := s1.nb } : St) w g2 s2 w → Esc ({ s1.killTok k with lo := s1.nb } : St) s2 →
        V g2 s2 w bx (.slice (some ⟨(g1.tk k).blk, 0, none⟩) xs.length cap) → self.call f (bx :: vs) s2 = some (r, t) →
        Calls P f (Value.slice (some ⟨(g1.tk k).blk, 0, none⟩) xs.length cap :: us).toArray w fun ex w' => ∃ v, ex = .returned v ∧ Good (CRof P gt) g s w (leave (s1.killTok k) t r) r v w' := by
      intro g2 s2 bx t i1 i2 i3 i4 hcl
      have hL12 : Le g1 s1 w g2 s2 w := (hLk.trans (Le.lo _)).trans i2
      have hVs := VL_mono hL12 _ _ hV1
      have := hS.call _ _ _ _ _ hcl g2 w (Value.slice (some ⟨(g1.tk k).blk, 0, none⟩) xs.length cap :: us) i1 (hG.mono (hL1.trans hL12)) (by simp only [VL]; exact ⟨_, _, rfl, i4, hVs⟩)
      refine this.mono fun ex w' ⟨v, hv, hg⟩ => ⟨v, hv, ?_⟩
      obtain ⟨g3, j1, j2, j3, j4⟩ := hg
      have := leave_ok hIk j1 (i2.trans j2) (Esc.trans i2.nb i3 j4) j3
      exact Good.from hL1 hE1 (Good.from hLk hEk this)
    by_cases hcap : cap = xs.length
    · obtain ⟨g2, i1, i2, i3, i4⟩ := key s1.nb (xs.length * es, true) 0 (.inr rfl) ⟨by rw [hcap]; exact Nat.le_refl _, fun _ => by rw [hcap]⟩ (Nat.zero_le _)
      exact fin i1 i2 i3 i4 hA
    · have hle : (xs.length + 1) * es ≤ cap * es := Nat.mul_le_mul_right es (by omega)
      obtain ⟨g2, i1, i2, i3, i4⟩ := key s1.nb ((xs.length + 1) * es, false) ((xs.length + 1) * es) (.inr rfl) ⟨hle, fun h => by cases h⟩ hle
      rw [hsB]
      exact fin i1 i2 i3 i4 hB
  · split at h <;> try (cases h; done)
    rename_i v' s2 hpx
    obtain ⟨g2, hI2, hL2, hV2, hE2⟩ := pub_ok hI1 hv1 hpx
    have := hS.call _ _ _ _ _ h g2 w (v :: us) hI2 (hG.mono (hL1.trans hL2)) (by simp only [VL]; exact ⟨_, _, rfl, hV2, VL_mono hL2 _ _ hV1⟩)
    exact this.mono fun ex w' ⟨v, hv, hg⟩ => ⟨v, hv, Good.from hL1 hE1 (Good.from hL2 hE2 hg)⟩

theorem op_ok (hS : SelfOk P gt self) (hN : NamesOk P) (hX : Ctx P gt prog) (hI : Inv (CRof P gt) g s w) (hG : GT gt g w) (hT : VT g s w e a.tmps) {pop : Bool × Nat × String} {aop : AOp}
    (hc : compOp P gt pop o = some aop) (h : evOp self e s aop = some (r, s')) : Does rd P o a w (Good (CRof P gt) g s w s' r) := by
  obtain ⟨pop, q, nm⟩ := pop
  unfold compOp at hc
  split at hc
  · rename_i x0 x ho hc0
    simp only at hc hc0
    split at hc
    · cases hc; exact op_ok0 hS hN hX hI hG hT hc0 h
    · cases hc
      unfold compOp0 at hc0
      simp only [ho] at hc0
      split at hc0 <;> try (cases hc0; done)
      rename_i y hy
      cases hc0
      have hv := cvX_ok hG hT hy
      simp only [evOp] at h
      split at h <;> try (cases h; done)
      rename_i nm' t v heq
      split at h <;> try (cases h; done)
      rename_i hcond
      cases h
      rw [heq] at hv
      have hv0 := hv
      simp only [V] at hv
      obtain ⟨u, ⟨u2, hu2, rfl⟩, hval⟩ := hv
      have hnm := beqN_eq hcond.1
      subst hnm
      rw [strOf_nmOf] at hval
      obtain ⟨f, hf⟩ := Option.isSome_iff_exists.1 hcond.2
      have hinv := invTab_of hf
      have hmax : ∃ n, P.types.size + Made.depth = n + 1 := by
        refine ⟨P.types.size + (Made.depth - 1), ?_⟩
        have : Made.depth = (Made.depth - 1) + 1 := by decide
        omega
      obtain ⟨n, hn⟩ := hmax
      have hrun := nilAhead_run (P := P) (w := w) (u := u2) hinv n
      refine does_value (v := a.eval x0) (w' := w) (by simp [ho]) ?_ (good_same hI hv0)
      have e0 : (#[Value.iface t u2] : Array Value)[0]? = some (.iface t u2) := rfl
      simp [execOp, ho, hval, e0, hn, hrun]
  · rename_i c0 aop0 ho hc0
    cases hc
    by_cases hq : ∃ f args, aop0 = .call f args ∧ ((∃ b, shutOp q aop0 = .callQ b f args) ∨ shutOp q aop0 = .callI f args)
    case neg =>
      by_cases hap : ∃ es T x y, aop0 = .app es T x y ∧ shutOp q aop0 = .appQ es T x y
      case pos =>
        obtain ⟨es, T, x, y, rfl, hq2⟩ := hap
        rw [hq2] at h
        simp only [evOp, appQA] at h
        split at h <;> try (cases h; done)
        rename_i v s2 hcl
        have h0 : evOp self e s (.app es T x y) = some (v, s2) := by simp only [evOp, hcl]
        refine fun next Q hn => op_ok0 (rd := rd) hS hN hX hI hG hT hc0 h0 next Q fun u w' hg => hn u w' ?_
        obtain ⟨g1, hI1, hL1, hV1, hE1⟩ := hg
        refine Good.from hL1 hE1 ?_
        exact pub_ok hI1 hV1 h
      have : shutOp q aop0 = aop0 := by
        unfold shutOp
        split
        · exact absurd ⟨_, _, rfl, .inl ⟨_, rfl⟩⟩ hq
        · exact absurd ⟨_, _, rfl, .inl ⟨_, rfl⟩⟩ hq
        · exact absurd ⟨_, _, rfl, .inr rfl⟩ hq
        · exact absurd ⟨_, _, rfl, .inl ⟨_, rfl⟩⟩ hq
        · exact absurd ⟨_, _, _, _, rfl, rfl⟩ hap
        · rfl
      rw [this] at h
      exact op_ok0 hS hN hX hI hG hT hc0 h
    case pos =>
      obtain ⟨f, args, rfl, hq⟩ := hq
      rcases hq with ⟨b, hq⟩ | hq
      · rw [hq] at h
        simp only [evOp] at h
        split at h <;> try (cases h; done)
        rename_i vs s1 hp
        split at h <;> try (cases h; done)
        rename_i v s2 hcl
        have h0 : evOp self e s (.call f args) = some (v, s2) := by simp only [evOp, hp, hcl]
        refine fun next Q hn => op_ok0 (rd := rd) hS hN hX hI hG hT hc0 h0 next Q fun u w' hg => hn u w' ?_
        obtain ⟨g1, hI1, hL1, hV1, hE1⟩ := hg
        refine Good.from hL1 hE1 ?_
        cases b with
        | true => exact thaw_ok hI1 hV1 h
        | false => exact pub_ok hI1 hV1 h
      · rw [hq] at h
        obtain ⟨us, hus, hcall⟩ := call_of (rd := rd) hN hG hT ho hc0
        refine hcall _ ?_
        exact callI_ok hS hI hG hus h
  · rename_i aop0 hc0 _ _
    cases hc
    exact op_ok0 hS hN hX hI hG hT hc0 h
  · cases hc

theorem V_bool {x : AV} {b : Bool} (h : V g s w x (.bool b)) : x = .b b := by
  cases x <;> simp only [V] at h
  case b => cases h; rfl
  case i => cases h
  case s => cases h.1
  case np => cases h
  case p => cases h.2
  case ep => obtain ⟨_, _, _, h, _⟩ := h; cases h
  case nsl => cases h
  case sl => obtain ⟨_, _, _, _, h, _⟩ := h; cases h
  case ws =>
    rcases h with ⟨h, _⟩ | ⟨⟨_, h⟩, _⟩ | ⟨_, _, _, _, h, _⟩ <;> cases h
  case wz => obtain ⟨_, h⟩ := h; cases h
  case bl => obtain ⟨_, _, h, _⟩ := h; cases h
  case sd => obtain ⟨_, _, _, _, h, _⟩ := h; cases h
  case nm => cases h
  case m => cases h.2
  case nf => cases h
  case fn => obtain ⟨_, _, h⟩ := h; cases h
  case yld => cases h.2
  case ni => cases h
  case ifc => obtain ⟨_, _, h⟩ := h; cases h
  case agg => obtain ⟨_, _, h⟩ := h; cases h
  case tup => obtain ⟨_, _, h⟩ := h; cases h
  case any => obtain ⟨_, _, h⟩ := h; cases h
  case ige => obtain ⟨_, h, _⟩ := h; cases h
  case mth => obtain ⟨_, _, h⟩ := h; cases h

/-- The guard of an operation: the same answer. -/
theorem guard_ok (hT : VT g s w e a.tmps) {ops : Array Oper} {gd : Option (Nat × Bool)}
    (h : match o.guard with
      | none => gd = none
      | some (j, want) => ∃ oj d, ops[j]? = some oj ∧ oj.dst = some d ∧ d < a.tmps.size ∧ gd = some (d, want)) :
    Region.wanted o (yielded ops a.tmps) = wants e gd := by
  unfold Region.wanted
  cases hg : o.guard with
  | none => simp only [hg] at h; subst h; rfl
  | some jw =>
    obtain ⟨j, want⟩ := jw
    simp only [hg] at h
    obtain ⟨oj, d, h1, h2, h3, rfl⟩ := h
    have hv := hT.2 d
    have hget : a.tmps[d]? = some a.tmps[d] := Array.getElem?_eq_getElem h3
    have hD : a.tmps.getD d Go.undef = a.tmps[d] := by simp [Array.getD_eq_getD_getElem?, h3]
    rw [hD] at hv
    simp only [yielded, h1, Option.bind_some, h2, hget, wants]
    cases hval : a.tmps[d] with
    | bool b =>
      rw [hval] at hv
      rw [V_bool hv]
      simp only
      cases b <;> cases want <;> rfl
    | _ =>
      have hnb : ∀ b, e.get d ≠ .b b := by
        intro b hb
        rw [hb, hval] at hv
        simp [V] at hv
      simp only
      cases hx : e.get d <;> first | rfl | exact absurd hx (hnb _)

/-- What a row of operations leaves. -/
def OpsPost (P : Program) (gt : Nat → Option (List AV)) (g : G) (s : St) (w : World) (a : Act) (e' : Tr) (s' : St) (a' : Act) (w' : World) : Prop :=
  a'.tmps.size = a.tmps.size ∧ a'.defers = a.defers ∧ ∃ g', Inv (CRof P gt) g' s' w' ∧ Le g s w g' s' w' ∧ VT g' s' w' e' a'.tmps ∧ Esc s s'

theorem put_size (a : Act) (d : Option Tmp) (v : Value) : (a.put d v).tmps.size = a.tmps.size ∧ (a.put d v).defers = a.defers := by cases d <;> simp [Act.put]

theorem ops_ok (hS : SelfOk P gt self) (hN : NamesOk P) (hX : Ctx P gt prog) {pop : Bool × Nat × String} {n : Nat} {ops : Array Oper} {Q : Exit → Act → World → Prop} : ∀ (l : List Oper) (k : Nat), l = ops.toList.drop k → ∀ {cl : List Op} {e e' : Tr} {s s' : St} {g : G} {w : World} {a : Act},
    compOps P gt pop n ops l = some cl → evOps self cl e s = some (e', s') → Inv (CRof P gt) g s w → GT gt g w → VT g s w e a.tmps → a.tmps.size = n →
    (∀ a' w', OpsPost P gt g s w a e' s' a' w' → Q .normal a' w') → wpOpsIn (fence rd) 0 P ops Q (List.range' k (ops.size - k)) a w
  | [], k, hl, cl, e, e', s, s', g, w, a, hc, h, hI, hG, hT, hn, hQ => by
    simp only [compOps] at hc; cases hc
    simp only [evOps] at h; cases h
    have : ops.size - k = 0 := by
      have h0 := List.drop_eq_nil_iff.1 hl.symm
      rw [Array.length_toList] at h0
      omega
    rw [this]
    simp only [List.range'_zero, wpOpsIn]
    exact hQ a w ⟨rfl, rfl, g, hI, Le.refl _ _ _, hT, Esc.refl _⟩
  | o :: l, k, hl, cl, e, e', s, s', g, w, a, hc, h, hI, hG, hT, hn, hQ => by
    have hk : ops[k]? = some o := by
      have : ops.toList[k]? = some o := by
        rw [← List.head?_drop, ← hl]; rfl
      simpa using this
    have hlt : k < ops.size := by rcases Array.getElem?_eq_some_iff.1 hk with ⟨h, _⟩; exact h
    have hl' : l = ops.toList.drop (k + 1) := by
      rw [← List.tail_drop, ← hl]; rfl
    rw [show ops.size - k = (ops.size - (k + 1)) + 1 by omega, List.range'_succ]
    simp only [wpOpsIn, hk]
    simp only [compOps] at hc
    split at hc <;> try (cases hc; done)
    rename_i r hr
    split at hc <;> try (cases hc; done)
    rename_i hd
    have hd' : dstOk a.tmps.size o.dst = true := by rw [hn]; exact hd
    -- the operation with its guard
    obtain ⟨gd, hcl, hgd⟩ : ∃ gd, cl = ⟨o.dst, (compOp P gt pop o).getD .bad, gd⟩ :: r ∧ (match o.guard with
      | none => gd = none
      | some (j, want) => ∃ oj d, ops[j]? = some oj ∧ oj.dst = some d ∧ d < a.tmps.size ∧ gd = some (d, want)) := by
      cases hg : o.guard with
      | none => simp only [hg] at hc; cases hc; exact ⟨none, rfl, rfl⟩
      | some jw =>
        obtain ⟨j, want⟩ := jw
        simp only [hg] at hc
        split at hc <;> try (cases hc; done)
        rename_i oj hoj
        split at hc <;> try (cases hc; done)
        rename_i d hdst
        split at hc <;> try (cases hc; done)
        rename_i hdn
        cases hc
        exact ⟨_, rfl, oj, d, hoj, hdst, (by rw [hn]; exact hdn), rfl⟩
    subst hcl
    have hw := guard_ok (o := o) hT hgd
    simp only [evOps] at h
    rw [hw]
    by_cases hwant : wants e gd = true
    · rw [if_pos hwant] at h ⊢
      split at h <;> try (cases h; done)
      rename_i v s1 hv
      cases hco : compOp P gt pop o with
      | none => rw [hco] at hv; simp [evOp] at hv
      | some aop =>
        rw [hco] at hv
        simp only [Option.getD_some] at hv
        refine op_ok (rd := rd) hS hN hX hI hG hT hco hv _ Q ?_
        rintro u w1 ⟨g1, hI1, hL1, hV1, hE1⟩
        obtain ⟨p1, p2⟩ := put_size a o.dst u
        refine ops_ok hS hN hX l (k + 1) hl' hr h hI1 (hG.mono hL1) (VT_put (VT_mono hL1 hT) hd' hV1) (by rw [p1]; exact hn) ?_
        rintro a' w' ⟨q1, q2, g2, hI2, hL2, hT2, hE2⟩
        exact hQ a' w' ⟨by rw [q1, p1], by rw [q2, p2], g2, hI2, hL1.trans hL2, hT2, Esc.trans hL1.nb hE1 hE2⟩
    · rw [if_neg hwant] at h ⊢
      refine ⟨fun _ _ => trivial, ?_⟩
      obtain ⟨p1, p2⟩ := put_size a o.dst Go.undef
      refine ops_ok hS hN hX l (k + 1) hl' hr h hI hG (VT_put hT hd' (by simp [undef, Go.undef, V, VL])) (by rw [p1]; exact hn) ?_
      rintro a' w' ⟨q1, q2, q3⟩
      exact hQ a' w' ⟨by rw [q1, p1], by rw [q2, p2], q3⟩
end
end Go.Proofs.YtfaodjpibdhdjaaDoor.Am
