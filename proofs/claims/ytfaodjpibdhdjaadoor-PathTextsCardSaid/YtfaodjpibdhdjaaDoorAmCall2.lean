/-
  The operation that calls; a region; code; a function.
-/
import Derived.Test.YtfaodjpibdhdjaaDoorAmCall
import Derived.Test.YtfaodjpibdhdjaaDoorAmOps11
set_option linter.all false
set_option linter.unusedVariables false
set_option linter.unusedSimpArgs false
set_option linter.unusedSectionVars false
set_option linter.constructorNameAsVariable false
namespace Go.Proofs.YtfaodjpibdhdjaaDoor.Am
section
variable {rd : Option Nat} {P : Program} {gt : Nat → Option (List AV)} {prog : Nat → Option Fun} {self : Self} {g : G} {s s' : St} {w : World} {e : Tr} {a : Act} {o : Oper} {r : AV}

theorem VL_one {x : AV} {v : Value} (h : V g s w x v) : VL g s w [x] [v] := by simp only [VL]; exact ⟨v, [], rfl, h, rfl⟩

theorem run_builtin {b : Builtin} {c : Go.Call} (ho : o.op = .call c) (hb : c.callee = .builtin b) :
    (execOp a.eval o).run P w = (builtin b c.argTypes o.type (c.args.map fun | .const _ => true | _ => false) (c.args.map a.eval)).run P w := by
  simp only [execOp, ho, Sem.run_bind, resolve, hb, Sem.run_pure, Result.andThen_ok, invoke]
  rfl

theorem arr1 {x : Array Operand} {y : Operand} (h : x.toList = [y]) : x.map a.eval = #[a.eval y] := by
  apply Array.toList_inj.1; simp [h]
theorem arr2 {x : Array Operand} {y z : Operand} (h : x.toList = [y, z]) : x.map a.eval = #[a.eval y, a.eval z] := by
  apply Array.toList_inj.1; simp [h]

theorem cvXs_one {l : List Operand} {x : X} (h : cvXs gt l = some [x]) : ∃ y, l = [y] ∧ cvX gt y = some x := by
  match l with
  | [] => simp [cvXs] at h
  | y :: l =>
    simp only [cvXs] at h
    split at h <;> try (cases h; done)
    rename_i a' r' h1 h2
    cases h
    match l, h2 with
    | [], _ => exact ⟨y, rfl, h1⟩
    | z :: l, h2 =>
      simp only [cvXs] at h2
      split at h2 <;> cases h2
theorem cvXs_two {l : List Operand} {x x' : X} (h : cvXs gt l = some [x, x']) : ∃ y y', l = [y, y'] ∧ cvX gt y = some x ∧ cvX gt y' = some x' := by
  match l with
  | [] => simp [cvXs] at h
  | y :: l =>
    simp only [cvXs] at h
    split at h <;> try (cases h; done)
    rename_i a' r' h1 h2
    cases h
    obtain ⟨y', rfl, h3⟩ := cvXs_one h2
    exact ⟨y, y', rfl, h1, h3⟩

theorem appT_of {c : Array TypeId} {t u el : Nat} {d : TypeDesc} {xa xb : X} {es T : Nat} {x' y' : X} (h0 : c[0]? = some t) (h1 : c[1]? = some u) (ht : P.underlying t = some (.slice el)) (hu : P.underlying u = some d) (hd : ∀ k, d ≠ .int k)
    (h : appOp P el xa xb = some (.app es T x' y')) : AppT P c es T ∧ x' = xa ∧ y' = xb := by
  unfold appOp at h
  split at h <;> try (cases h; done)
  rename_i i z hi hz
  split at h <;> try (cases h; done)
  rename_i hc
  cases h
  obtain ⟨v, hv1, hv2⟩ := run_zeroValue (P := P) hz
  refine ⟨⟨t, u, d, i, v, h0, h1, ht, hu, hd, hi, rfl, hc.2.1, hc.1, hv1, ?_⟩, rfl, rfl⟩
  have := V_size (hv2 ⟨0, fun _ => 0, fun _ => default, fun _ => 0⟩ default default)
  omega

theorem op_call (hS : SelfOk P gt self) (hN : NamesOk P) (hX : Ctx P gt prog) (hI : Inv (CRof P gt) g s w) (hG : GT gt g w) (hT : VT g s w e a.tmps) {pop : Bool} {aop : AOp} {c : Go.Call} (ho : o.op = .call c)
    (hc : compOp0 P gt pop o = some aop) (h : evOp self e s aop = some (r, s')) : Does rd P o a w (Good (CRof P gt) g s w s' r) := by
  have hnd : ∀ c, o.op ≠ .defer c := by simp [ho]
  unfold compOp0 at hc
  simp only [ho] at hc
  split at hc <;> try (cases hc; done)
  rename_i args hargs
  have hvs := cvXs_ok hG hT hargs
  have hmap : (c.args.toList.map a.eval).toArray = c.args.map a.eval := by apply Array.toList_inj.1; simp
  unfold compCall at hc
  split at hc
  · -- a function by its name
    rename_i f hcal
    split at hc <;> try (cases hc; done)
    rename_i F hF
    have hrun : (execOp a.eval o).run P w = (callFunc f (c.args.map a.eval)).run P w := by
      simp [execOp, ho, resolve, hcal, Act.eval, Deferred.ofValue, invoke]
    split at hc
    · rename_i b hb
      split at hc
      · cases hc
        simp only [evOp] at h
        refine does_enter hnd (w' := w) (f := f) (args := c.args.map a.eval) (by rw [hrun]; exact run_callFunc hN hF hb _) ?_
        have := hS.call _ _ _ _ _ h g w _ hI hG hvs
        rw [hmap] at this
        exact this.mono fun ex w' ⟨v, hv, hg⟩ => ⟨v, hv, hg⟩
      cases hc
      simp only [evOp] at h
      split at h <;> try (cases h; done)
      rename_i vs s1 hp
      obtain ⟨g1, hI1, hL1, hV1, hE1⟩ := pubL_ok hI hvs hp
      refine does_enter hnd (w' := w) (f := f) (args := c.args.map a.eval) (by rw [hrun]; exact run_callFunc hN hF hb _) ?_
      have := hS.call _ _ _ _ _ h g1 w _ hI1 (hG.mono hL1) hV1
      rw [hmap] at this
      exact this.mono fun ex w' ⟨v, hv, hg⟩ => ⟨v, hv, Good.from hL1 hE1 hg⟩
    · rename_i hb
      split at hc
      case h_2 hrow =>
        split at hc
        case isFalse =>
          split at hc <;> try (cases hc; done)
          rename_i hov
          unfold ovlOp at hc
          split at hc <;> try (cases hc; done)
          rename_i x x' t t' hts
          split at hc <;> try (cases hc; done)
          rename_i el hut
          split at hc <;> try (cases hc; done)
          rename_i es hsz
          split at hc <;> try (cases hc; done)
          rename_i hes
          cases hc
          obtain ⟨y, y', hy1, hy2, hy3⟩ := cvXs_two hargs
          have hv := cvX_ok hG hT hy2
          have hv' := cvX_ok hG hT hy3
          simp only [evOp] at h
          split at h <;> try (cases h; done)
          rename_i hq
          cases h
          have hpt : F.params[0]? = some t := by
            have : F.params = #[t, t'] := by apply Array.toList_inj.1; simpa using hts
            rw [this]; rfl
          have e1 := ovl_ok (P := P) hI hut hsz hes hpt F.resultTypes hv hv' hq
          exact does_value hnd (w' := w) (by rw [hrun, arr2 hy1]; exact run_ovl hN hX hF hb hov e1) (good_same hI (by simp [V]))
        rename_i hname
        split at hc <;> try (cases hc; done)
        rename_i x t hts
        split at hc <;> try (cases hc; done)
        rename_i el hut
        split at hc <;> try (cases hc; done)
        rename_i hue hsz
        cases hc
        obtain ⟨y, hy1, hy2⟩ := cvXs_one hargs
        have hv := cvX_ok hG hT hy2
        simp only [evOp] at h
        split at h <;> try (cases h; done)
        rename_i n heq
        split at h <;> try (cases h; done)
        rename_i hn
        cases h
        rw [heq] at hv; simp only [V] at hv
        have hrt : F.resultTypes = #[t] := by apply Array.toList_inj.1; simpa using hts
        obtain ⟨v, w', e1, e2⟩ := mnz_ok (P := P) hI hut F.params hn.1 hn.2
        rw [← hrt, ← hv] at e1
        exact does_value hnd (w' := w') (by rw [hrun, arr1 hy1]; exact run_mnz hN hX hF hb hname e1) e2
      rename_i row hrow
      cases hc
      simp only [evOp] at h
      obtain ⟨ex, hex, hx⟩ := run_ext (w := w) hN hX hF hb hrow
      unfold extA at h
      split at h <;> try (cases h; done)
      · rename_i l k c' hev
        rw [hev] at hvs
        simp only [ExtOk] at hex
        simp only [VL, V] at hvs
        obtain ⟨v1, r1, e1, ⟨rfl, hlt⟩, v2, r2, rfl, rfl, rfl⟩ := hvs
        split at h <;> try (cases h; done)
        rename_i hk
        cases h
        obtain ⟨rfl, hk0, hk1⟩ := hk
        have hc' : c' = Int.ofNat c'.toNat := (Int.toNat_of_nonneg hk0).symm
        have := hx #[.string (bytesOf l), .int .u8 c'] _ w (by rw [hc']; exact hex l c'.toNat w hlt (by omega))
        refine does_value hnd (w' := w) (by rw [hrun, ← hmap, e1]; exact this) (good_same hI (by simp [V]))
      · rename_i v hev
        rw [hev] at hvs
        simp only [ExtOk] at hex
        simp only [VL] at hvs
        obtain ⟨v1, r1, e1, hv1, rfl⟩ := hvs
        cases h
        exact does_value hnd (w' := w) (by rw [hrun, ← hmap, e1]; exact hx #[v1] _ w (hex v1 w)) (good_same hI hv1)
  · -- a function value
    rename_i v hnf hcal
    split at hc <;> try (cases hc; done)
    rename_i x hx
    cases hc
    simp only [evOp] at h
    split at h <;> try (cases h; done)
    rename_i vs s1 hp
    obtain ⟨g1, hI1, hL1, hV1, hE1⟩ := pubL_ok hI hvs hp
    have hv := V_mono hL1 _ _ (cvX_ok hG hT hx)
    cases hxe : x.ev e <;> rw [hxe] at h hv <;> try (simp only [callV] at h; cases h; done)
    · rename_i f caps
      simp only [callV] at h
      simp only [V] at hv
      obtain ⟨us, hu1, hu2⟩ := hv
      obtain ⟨F, b, hF, hb⟩ := hS.body _ _ _ _ _ h
      refine does_enter hnd (w' := w) (f := f) (args := (c.args.map a.eval) ++ us.toArray) ?_ ?_
      · have := run_callFunc (w := w) hN hF hb ((c.args.map a.eval) ++ us.toArray)
        simp [execOp, ho, resolve, hcal, hu2, Deferred.ofValue, invoke, this]
      · have := hS.call _ _ _ _ _ h g1 w _ hI1 (hG.mono hL1) (VL_append hV1 hu1)
        have e1 : (List.map a.eval c.args.toList ++ us).toArray = c.args.map a.eval ++ us.toArray := by apply Array.toList_inj.1; simp
        rw [e1] at this
        exact this.mono fun ex w' ⟨v, hv, hg⟩ => ⟨v, hv, Good.from hL1 hE1 hg⟩
    · rename_i l
      simp only [V] at hv
      obtain ⟨hl1, hl2⟩ := hv
      obtain ⟨f, tmps, cx, cy, e1, e2⟩ := yield_ok (rd := rd) hS hI1 (hG.mono hL1) hV1 h
      rw [hmap] at e1
      refine does_round hnd (w' := w) (l := g1.bx l) (f := f) (tmps := tmps) (x := cx) (y := cy) ?_ ?_
      · simp [execOp, ho, resolve, hcal, hl2, Deferred.ofValue, invoke, e1]
      · exact e2.mono fun ex w' ⟨v, hv, hg⟩ => ⟨v, hv, Good.from hL1 hE1 hg⟩
  · -- a method
    rename_i rcv name hcal
    split at hc <;> try (cases hc; done)
    rename_i x hx
    cases hc
    simp only [evOp] at h
    split at h <;> try (cases h; done)
    rename_i t v vs s1 heq hp
    split at h <;> try (cases h; done)
    rename_i f hf
    obtain ⟨g1, hI1, hL1, hV1, hE1⟩ := pubL_ok hI hvs hp
    have hv := V_mono hL1 _ _ (cvX_ok hG hT hx)
    rw [heq] at hv
    simp only [V] at hv
    obtain ⟨u, hu, hru⟩ := hv
    obtain ⟨F, b, hF, hb⟩ := hS.body _ _ _ _ _ h
    -- the table
    have hinv : invOf P name t = some f := by
      unfold invTab at hf
      have : ∀ {l : List (Nat × Nat)}, l.lookup t = some f → (t, f) ∈ l := by
        intro l
        induction l with
        | nil => intro h; simp at h
        | cons q l ih =>
          obtain ⟨a, c⟩ := q
          intro h
          rw [List.lookup_cons] at h
          split at h
          · rename_i he
            have : t = a := by simpa using he
            subst this
            cases h; simp
          · exact List.mem_cons_of_mem _ (ih h)
      have := this hf
      rw [List.mem_filterMap] at this
      obtain ⟨t', _, ht'⟩ := this
      rw [Option.map_eq_some_iff] at ht'
      obtain ⟨f', h1, h2⟩ := ht'
      cases h2
      exact h1
    have hm : ∀ n, (method (n + 1) t u name).run P w = .ok (f, u) w := by
      intro n
      unfold invOf at hinv
      split at hinv <;> try (cases hinv; done)
      rename_i i d hi hd
      split at hinv <;> try (cases hinv; done)
      rename_i m hm
      split at hinv <;> try (cases hinv; done)
      rename_i f' pr hpath hfunc
      have hfo : (follow m.path.toList t (.val u)).run P w = .ok (t, .val u) w := by rw [hpath]; rfl
      have hrec : ∀ wr, (receiverAt t (.val u) pr wr).run P w = .ok u w ∧ f' = f := by
        intro wr
        split at hinv <;> try (cases hinv; done)
        · cases hinv
          refine ⟨?_, rfl⟩
          simp only [receiverAt, Sem.run_bind, run_underlying hd, Result.andThen_ok]
          rfl
        · cases hinv
          refine ⟨?_, rfl⟩
          rename_i hnp _
          simp only [receiverAt, Sem.run_bind, run_underlying hd, Result.andThen_ok]
          cases d <;> first | rfl | (rename_i q; exact (hnp q rfl).elim) | skip
      simp only [method, Sem.run_bind, run_typeInfo hi, Result.andThen_ok, hm, hfo, hfunc]
      obtain ⟨_, rfl⟩ := hrec none
      simp [(hrec _).1]
    have hr1 : a.eval rcv = .iface t u := hru
    have hmax : ∃ n, P.types.size + Made.depth = n + 1 := by
      refine ⟨P.types.size + (Made.depth - 1), ?_⟩
      have : Made.depth = (Made.depth - 1) + 1 := by decide
      omega
    obtain ⟨n, hn⟩ := hmax
    have hrun : (execOp a.eval o).run P w = (callFunc f (#[u] ++ c.args.map a.eval)).run P w := by
      have e0 : ∀ l : Array Value, (#[Value.iface t u] ++ l)[0]? = some (Value.iface t u) := fun l => by rw [Array.getElem?_append_left (by simp)]; rfl
      have e2 : (Array.map a.eval c.args).extract 0 c.args.size = Array.map a.eval c.args := by
        rw [show c.args.size = (Array.map a.eval c.args).size by simp]; exact Array.extract_size
      simp [execOp, ho, resolve, hcal, hr1, Go.invoke, callMethod, e0, e2, hn, hm n]
    refine does_enter hnd (w' := w) (f := f) (args := #[u] ++ c.args.map a.eval) (by rw [hrun]; exact run_callFunc hN hF hb _) ?_
    have := hS.call _ _ _ _ _ h g1 w (u :: (c.args.toList.map a.eval)) hI1 (hG.mono hL1) (by simp only [VL]; exact ⟨u, _, rfl, hu, hV1⟩)
    have e1 : (u :: List.map a.eval c.args.toList).toArray = #[u] ++ c.args.map a.eval := by apply Array.toList_inj.1; simp
    rw [e1] at this
    exact this.mono fun ex w' ⟨v, hv, hg⟩ => ⟨v, hv, Good.from hL1 hE1 hg⟩
  · -- len
    rename_i hcal
    split at hc <;> try (cases hc; done)
    rename_i x t ht
    obtain ⟨y, hy1, hy2⟩ := cvXs_one hargs
    have hv := cvX_ok hG hT hy2
    have hrun := run_builtin (P := P) (a := a) (w := w) ho hcal
    rw [arr1 hy1] at hrun
    have fin : ∀ k, ((k = 0 ∧ P.underlying t = some .string) ∨ (k = 1 ∧ ∃ e, P.underlying t = some (.slice e)) ∨ (k = 2 ∧ ∃ q e, P.underlying t = some (.map q e))) → evOp self e s (.len k x) = some (r, s') → Does rd P o a w (Good (CRof P gt) g s w s' r) := by
      intro k hk h
      simp only [evOp] at h
      obtain ⟨hq, rfl⟩ := ret1_cases h
      obtain ⟨v, e1, e2⟩ := len_ok (P := P) (ty := o.type) hI ht hk hv hq
      exact does_value hnd (w' := w) (by rw [hrun]; simp only [builtin]; exact val_of e1) (good_same hI e2)
    split at hc <;> cases hc
    · rename_i hu; exact fin 0 (.inl ⟨rfl, hu⟩) h
    · rename_i el hu; exact fin 1 (.inr (.inl ⟨rfl, el, hu⟩)) h
    · rename_i q el hu; exact fin 2 (.inr (.inr ⟨rfl, q, el, hu⟩)) h
  · -- cap
    rename_i hcal
    split at hc <;> try (cases hc; done)
    rename_i x t ht
    split at hc <;> try (cases hc; done)
    rename_i el hu
    cases hc
    obtain ⟨y, hy1, hy2⟩ := cvXs_one hargs
    have hv := cvX_ok hG hT hy2
    have hrun := run_builtin (P := P) (a := a) (w := w) ho hcal
    rw [arr1 hy1] at hrun
    simp only [evOp] at h
    have fin2 : ∀ (n : Nat) (r : AV), V g s w r (goInt n) → (∃ b l, a.eval y = .slice b l n) → Does rd P o a w (Good (CRof P gt) g s w s r) := by
      rintro n r hr ⟨b, l, hb⟩
      have a0 : (#[.slice b l n] : Array Value)[0]? = some (.slice b l n) := rfl
      refine does_value hnd (w' := w) (v := goInt n) ?_ (good_same hI hr)
      rw [hrun, hb]; simp only [builtin]
      refine val_of ?_
      simp only [Builtin.cap_, ht, a0, Sem.run_bind, run_underlying hu, Result.andThen_ok]
      rfl
    have fin : ∀ n : Nat, (∃ b l, a.eval y = .slice b l n) → Does rd P o a w (Good (CRof P gt) g s w s (.i .i64 (Int.ofNat n))) := fun n => fin2 n _ (by simp [V, goInt])
    split at h <;> try (cases h; done)
    · rename_i heq
      cases h
      rw [heq] at hv; simp only [V] at hv
      exact fin 0 ⟨_, _, hv⟩
    · rename_i heq
      cases h
      rw [heq] at hv; simp only [V] at hv
      obtain ⟨ba, hv⟩ := hv
      exact fin 0 ⟨_, _, hv⟩
    · rename_i es l heq
      cases h
      rw [heq] at hv; simp only [V] at hv
      obtain ⟨b, o', cap, vs, hb, _, _, _, h5⟩ := hv
      have := (h5 rfl).2.2.2
      simp only [CapIs] at this
      subst this
      exact fin _ ⟨_, _, hb⟩
    · rename_i id es off n x0 heq
      split at h <;> try (cases h; done)
      rename_i hc0
      cases h
      rw [heq] at hv; simp only [V] at hv
      obtain ⟨o', cap, hb, _, _, hx1, _⟩ := hv
      have hq : (x0 - off) / es = cap := by
        have := hx1.2 trivial
        rw [show x0 - off = cap * es by omega]
        exact Nat.mul_div_cancel _ hc0.1
      rw [hq]
      exact fin _ ⟨_, _, hb⟩
    · rename_i id es off n x0 heq
      split at h <;> try (cases h; done)
      rename_i hes
      cases h
      rw [heq] at hv; simp only [V] at hv
      obtain ⟨o', cap, hb, _, hz, hx1, _⟩ := hv
      refine fin2 cap _ ?_ ⟨_, _, hb⟩
      simp only [V]
      refine ⟨cap, rfl, ?_⟩
      have : blCap es off n (x0, false) ≤ cap := by
        unfold blCap
        refine Nat.max_le.2 ⟨hz.2, ?_⟩
        refine Nat.le_of_mul_le_mul_right (c := es) ?_ (by omega)
        have := Nat.div_mul_le_self (x0 - off) es
        simp only
        omega
      exact Int.ofNat_le.2 this
  · -- clear
    rename_i hcal
    split at hc <;> try (cases hc; done)
    rename_i x t ht
    split at hc <;> try (cases hc; done)
    rename_i el hu
    split at hc <;> try (cases hc; done)
    rename_i es z hsz hz
    split at hc <;> try (cases hc; done)
    rename_i he
    cases hc
    obtain ⟨y, hy1, hy2⟩ := cvXs_one hargs
    have hv := cvX_ok hG hT hy2
    have hrun := run_builtin (P := P) (a := a) (w := w) ho hcal
    rw [arr1 hy1] at hrun
    obtain ⟨v, w', q1, q2⟩ := clr_ok (P := P) (ty := o.type) hI ht hu hz he hv rfl h
    exact does_value hnd (by rw [hrun]; simp only [builtin]; exact val_of q1) q2
  · -- max
    rename_i hcal
    split at hc <;> try (cases hc; done)
    rename_i x x'
    cases hc
    obtain ⟨y, y', hy1, hy2, hy3⟩ := cvXs_two hargs
    have hv := cvX_ok hG hT hy2
    have hv' := cvX_ok hG hT hy3
    have hrun := run_builtin (P := P) (a := a) (w := w) ho hcal
    rw [arr2 hy1] at hrun
    simp only [evOp] at h
    split at h <;> try (cases h; done)
    rename_i k n k' m h1 h2
    cases h
    rw [h1] at hv; rw [h2] at hv'
    have := mm_ok (P := P) (mx := true) (c := c.argTypes) (ty := o.type) hv hv'
    simp only [if_true] at this
    exact does_value hnd (w' := w) (by rw [hrun]; simp only [builtin]; exact val_of this) (good_same hI (by simp [V]))
  · -- min
    rename_i hcal
    split at hc <;> try (cases hc; done)
    rename_i x x'
    cases hc
    obtain ⟨y, y', hy1, hy2, hy3⟩ := cvXs_two hargs
    have hv := cvX_ok hG hT hy2
    have hv' := cvX_ok hG hT hy3
    have hrun := run_builtin (P := P) (a := a) (w := w) ho hcal
    rw [arr2 hy1] at hrun
    simp only [evOp] at h
    split at h <;> try (cases h; done)
    rename_i k n k' m h1 h2
    cases h
    rw [h1] at hv; rw [h2] at hv'
    have := mm_ok (P := P) (mx := false) (c := c.argTypes) (ty := o.type) hv hv'
    simp only [Bool.false_eq_true, if_false] at this
    exact does_value hnd (w' := w) (by rw [hrun]; simp only [builtin]; exact val_of this) (good_same hI (by simp [V]))
  · -- copy
    rename_i hcal
    split at hc <;> try (cases hc; done)
    rename_i x x' t ht
    split at hc <;> try (cases hc; done)
    rename_i el hu
    split at hc <;> try (cases hc; done)
    rename_i n hn
    cases hc
    obtain ⟨y, y', hy1, hy2, hy3⟩ := cvXs_two hargs
    have hv := cvX_ok hG hT hy2
    have hv' := cvX_ok hG hT hy3
    have hrun := run_builtin (P := P) (a := a) (w := w) ho hcal
    rw [arr2 hy1] at hrun
    simp only [evOp] at h
    split at h <;> try (cases h; done)
    rename_i k1 n1 k2 n2 h1 h2
    split at h
    case isFalse =>
      obtain ⟨v, w', e1, e2⟩ := cp_ok (P := P) (c := c.argTypes) (ty := o.type) hI ht hu hn hv hv' h
      exact does_value hnd (w' := w') (by rw [hrun]; simp only [builtin]; exact val_of e1) e2
    rename_i h0
    cases h
    have := cp0_ok (P := P) (c := c.argTypes) (ty := o.type) ht hu hn hv hv' h1 h2 h0
    exact does_value hnd (w' := w) (by rw [hrun]; simp only [builtin]; exact val_of this) (good_same hI (by simp [V]))
  · -- where a slice lies
    rename_i hcal
    split at hc <;> try (cases hc; done)
    rename_i x t ht
    split at hc <;> try (cases hc; done)
    rename_i el hu
    cases hc
    obtain ⟨y, hy1, hy2⟩ := cvXs_one hargs
    have hv := cvX_ok hG hT hy2
    have hrun := run_builtin (P := P) (a := a) (w := w) ho hcal
    rw [arr1 hy1] at hrun
    simp only [evOp] at h
    obtain ⟨v, e1, e2, rfl⟩ := ud_ok (P := P) (c := c.argTypes) (ty := o.type) hv h
    exact does_value hnd (w' := w) (by rw [hrun]; simp only [builtin]; exact val_of e1) (good_same hI e2)
  · -- bytes taken for a text
    rename_i hcal
    split at hc <;> try (cases hc; done)
    rename_i x x' t it hts
    split at hc <;> try (cases hc; done)
    rename_i el hu
    split at hc <;> try (cases hc; done)
    rename_i hcell
    cases hc
    obtain ⟨y, y', hy1, hy2, hy3⟩ := cvXs_two hargs
    have hv := cvX_ok hG hT hy2
    have hv' := cvX_ok hG hT hy3
    have hrun := run_builtin (P := P) (a := a) (w := w) ho hcal
    rw [arr2 hy1] at hrun
    simp only [evOp] at h
    have hct : c.argTypes = #[t, it] := by apply Array.toList_inj.1; simpa using hts
    obtain ⟨v, w', e1, e2⟩ := us_ok (P := P) (pt := t) (it := it) (ty := o.type) hI hu hcell hv hv' h
    exact does_value hnd (w' := w') (by rw [hrun, hct]; simp only [builtin]; exact val_of e1) e2
  · -- append
    rename_i hcal
    split at hc <;> try (cases hc; done)
    rename_i x x' t u ht hu
    obtain ⟨y, y', hy1, hy2, hy3⟩ := cvXs_two hargs
    have hv := cvX_ok hG hT hy2
    have hv' := cvX_ok hG hT hy3
    have hrun := run_builtin (P := P) (a := a) (w := w) ho hcal
    rw [arr2 hy1] at hrun
    have fin : ∀ (el : Nat) (d : TypeDesc), P.underlying t = some (.slice el) → P.underlying u = some d → (∀ k, d ≠ .int k) → appOp P el x x' = some aop → Does rd P o a w (Good (CRof P gt) g s w s' r) := by
      intro el d h1 h2 h3 h4
      have hshape : ∃ es T, aop = .app es T x x' := by
        unfold appOp at h4
        split at h4 <;> try (cases h4; done)
        split at h4 <;> try (cases h4; done)
        cases h4; exact ⟨_, _, rfl⟩
      obtain ⟨es, T, rfl⟩ := hshape
      obtain ⟨hT', _, _⟩ := appT_of ht hu h1 h2 h3 h4
      simp only [evOp] at h
      obtain ⟨v, w', e1, e2⟩ := app_ok (P := P) (c := c.argTypes) (ty := o.type) hI hT' hv hv' h
      exact does_value hnd (w' := w') (by rw [hrun]; simp only [builtin]; exact val_of e1) e2
    split at hc <;> try (cases hc; done)
    · rename_i el e2 h1 h2; exact fin _ _ h1 h2 (by simp) hc
    · rename_i el h1 h2; exact fin _ _ h1 h2 (by simp) hc
    · rename_i el kn h1 h2
      unfold apzOp at hc
      split at hc <;> try (cases hc; done)
      rename_i i z hi hz
      split at hc <;> try (cases hc; done)
      rename_i hcond
      cases hc
      simp only [evOp] at h
      obtain ⟨v, w', e1, e2⟩ := apz_ok (P := P) (c := c.argTypes) (ty := o.type) hI ht hu h1 h2 hi rfl hcond.2.1 hcond.1 hz hcond.2.2 hv hv' h
      exact does_value hnd (w' := w') (by rw [hrun]; simp only [builtin]; exact val_of e1) e2
  · cases hc

/-- A call of a function by its name: its arguments, and what is to be shown of it. -/
theorem call_of (hN : NamesOk P) (hG : GT gt g w) (hT : VT g s w e a.tmps) {c : Call} {pop : Bool} {f : Nat} {args : List X} (ho : o.op = .call c) (hc : compOp0 P gt pop o = some (.call f args)) :
    ∃ us, VL g s w (evX e args) us ∧ ∀ R : Value → World → Prop, (Calls P f us.toArray w fun ex w' => ∃ v, ex = .returned v ∧ R v w') → Does rd P o a w R := by
  have hnd : ∀ c, o.op ≠ .defer c := by simp [ho]
  unfold compOp0 at hc
  simp only [ho] at hc
  split at hc <;> try (cases hc; done)
  rename_i args' hargs
  have hvs := cvXs_ok hG hT hargs
  have hmap : (c.args.toList.map a.eval).toArray = c.args.map a.eval := by apply Array.toList_inj.1; simp
  unfold compCall at hc
  split at hc
  · rename_i f' hcal
    split at hc <;> try (cases hc; done)
    rename_i F hF
    split at hc
    · rename_i b hb
      split at hc
      · cases hc
      · cases hc
        have hrun : (execOp a.eval o).run P w = (callFunc f (c.args.map a.eval)).run P w := by
          simp [execOp, ho, resolve, hcal, Act.eval, Deferred.ofValue, invoke]
        refine ⟨_, hvs, fun R hR => ?_⟩
        refine does_enter hnd (w' := w) (f := f) (args := c.args.map a.eval) (by rw [hrun]; exact run_callFunc hN hF hb _) ?_
        rw [hmap] at hR
        exact hR
    · split at hc
      · cases hc
      · split at hc
        · split at hc <;> try (cases hc; done)
          split at hc <;> try (cases hc; done)
          split at hc <;> cases hc
        · split at hc <;> try (cases hc; done)
          unfold ovlOp at hc
          split at hc <;> try (cases hc; done)
          split at hc <;> try (cases hc; done)
          split at hc <;> try (cases hc; done)
          split at hc <;> cases hc
  all_goals first
    | (cases hc; done)
    | (split at hc <;> first
        | (cases hc; done)
        | (split at hc <;> first
            | (cases hc; done)
            | (split at hc <;> first
                | (cases hc; done)
                | (split at hc <;> cases hc)
                | (unfold appOp at hc; split at hc <;> try (cases hc; done)
                   split at hc <;> cases hc)
                | (unfold apzOp at hc; split at hc <;> try (cases hc; done)
                   split at hc <;> cases hc))
            | (unfold appOp at hc; split at hc <;> try (cases hc; done)
               split at hc <;> cases hc)
            | (unfold apzOp at hc; split at hc <;> try (cases hc; done)
               split at hc <;> cases hc)))
end
end Go.Proofs.YtfaodjpibdhdjaaDoor.Am
