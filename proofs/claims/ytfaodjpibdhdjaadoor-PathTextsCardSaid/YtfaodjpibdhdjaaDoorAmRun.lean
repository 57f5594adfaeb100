/-
  Every operation of the model does what the abstract machine's does.
-/
import Derived.Test.YtfaodjpibdhdjaaDoorAmOps10
import Derived.RangeFuncLeaves
set_option linter.all false
set_option linter.unusedVariables false
set_option linter.unusedSimpArgs false
set_option linter.unusedSectionVars false
set_option linter.constructorNameAsVariable false
namespace Go.Proofs.YtfaodjpibdhdjaaDoor.Am

/-- The fence within which we walk: none; in a round of a range over a function: the round's. -/
def fence (rd : Option Nat) : Fence := { Fence.wide with round := rd }

theorem calls_fence {rd : Option Nat} {n : Nat} {P : Program} {f : FuncId} {args : Array Value} {w : World} {R : Ending → World → Prop} (h : Calls P f args w R) : CallsIn (fence rd) n P f args w R :=
  callsIn_wide.2 h

/-- What an operation comes to: a value and a world. -/
def Does (rd : Option Nat) (P : Program) (o : Oper) (a : Act) (w : World) (K : Value → World → Prop) : Prop :=
  ∀ (next : Act → World → Prop) (Q : Exit → Act → World → Prop), (∀ v w', K v w' → next (a.put o.dst v) w') → o.wpIn (fence rd) 0 P a w next Q

section
variable {rd : Option Nat} {P : Program} {o : Oper} {a : Act} {w w' : World} {K : Value → World → Prop}

theorem does_of (hd : ∀ c, o.op ≠ .defer c) (h : ∀ (next : Act → World → Prop) (Q : Exit → Act → World → Prop), (∀ v w', K v w' → next (a.put o.dst v) w') → o.uponIn (fence rd) 0 P a next Q ((execOp a.eval o).run P w)) : Does rd P o a w K := by
  intro next Q hn
  refine ⟨fun _ _ => trivial, ?_⟩
  rw [Oper.semAt_eq _ _ _ hd]
  exact h next Q hn

theorem does_value (hd : ∀ c, o.op ≠ .defer c) {v : Value} (h : (execOp a.eval o).run P w = .ok (.value v) w') (hk : K v w') : Does rd P o a w K :=
  does_of hd fun next Q hn => by rw [h]; exact hn v w' hk
theorem does_skip (hd : ∀ c, o.op ≠ .defer c) (h : (execOp a.eval o).run P w = .ok .skip w') (hk : K Go.undef w') : Does rd P o a w K :=
  does_of hd fun next Q hn => by rw [h]; exact hn _ w' hk
theorem does_enter (hd : ∀ c, o.op ≠ .defer c) {f : FuncId} {args : Array Value} (h : (execOp a.eval o).run P w = .ok (.enter f args) w') (hk : Calls P f args w' fun e w'' => ∃ v, e = .returned v ∧ K v w'') : Does rd P o a w K :=
  does_of hd fun next Q hn => by
    rw [h, Oper.uponIn_enter]
    refine ⟨(fun hh => by cases hh), calls_fence (hk.mono ?_)⟩
    rintro e w'' ⟨v, rfl, hv⟩
    exact hn v w'' hv
theorem does_round (hd : ∀ c, o.op ≠ .defer c) {l : Nat} {f : FuncId} {tmps : Array Value} {x y : Code} (h : (execOp a.eval o).run P w = .ok (.round l f tmps x y) w')
    (hk : RoundIn (fence rd) 0 P l f tmps x y w' fun e w'' => ∃ v, e = .returned v ∧ K v w'') : Does rd P o a w K :=
  does_of hd fun next Q hn => by
    rw [h, Oper.uponIn_round]
    refine ⟨(fun hh => by cases hh), hk.mono ?_⟩
    rintro e w'' ⟨v, rfl, hv⟩
    exact hn v w'' hv
end

/-- How far the code of a function goes with the abstract machine's. -/
def CRof (P : Program) (gt : Nat → Option (List AV)) : Nat → Code → C → Prop := fun n code c => n < 1000 ∧ noRf code = true ∧ ∃ pops, compC P gt pops n code = c

def ExRel : Ex → Exit → Prop
  | .n, .normal => True
  | .x i, .exit j => i = j
  | .r, .ret => True
  | _, _ => False

/-- Marks that loops have left among the deferred calls. -/
def Marks (w w' : World) (ds : List Deferred) : Prop :=
  (∀ d ∈ ds, ∃ r, d = { target := .collected r, args := #[] } ∧ w.heap.size ≤ r ∧ w'.heap[r]? = some (.deferred (some []))) ∧ ds.Nodup

def CodePost (P : Program) (gt : Nat → Option (List AV)) (g : G) (s : St) (w : World) (rd : Option Nat) (a : Act) (x : Ex) (e' : Tr) (s' : St) : Exit → Act → World → Prop :=
  fun ex a' w' => ExRel x ex ∧ a'.tmps.size = a.tmps.size ∧ (∃ g', Inv (CRof P gt) g' s' w' ∧ Le g s w g' s' w' ∧ VT g' s' w' e' a'.tmps ∧ Esc s s') ∧
    (rd.isSome = true → a'.defers = a.defers) ∧ ∃ ds, a'.defers = ds ++ a.defers ∧ (∀ d ∈ ds, ∃ r, d = { target := .collected r, args := #[] } ∧ w.heap.size ≤ r ∧ w'.heap[r]? = some (.deferred (some []))) ∧ ds.Pairwise (fun d d' => d ≠ d')

/-- The rows without a body. -/
def ExtOk (r : Nat) (e : Array Value → Sem Value) (P : Program) : Prop :=
  match r with
  | 0 => ∀ (l : List Nat) (c : Nat) (w : World), (∀ n ∈ l, n < 256) → c < 256 → (e #[.string (bytesOf l), .int .u8 (Int.ofNat c)]).run P w = .ok (.int .i64 (idxB c 0 l)) w
  | 1 => ∀ v w, (e #[v]).run P w = .ok v w
  | _ => False

/-- A function of which it is proved once what it tells: it turns nothing that was there, and tells what bears no address. -/
def PrimOk (P : Program) (gt : Nat → Option (List AV)) (f : Nat) (p : List AV → Option AV) : Prop :=
  (∃ F b, P.funcs[f]? = some F ∧ F.body = some b) ∧ ∀ args r, p args = some r → ∀ g s w vs, GT gt g w → VL g s w args vs →
    Calls P f vs.toArray w fun e w' => ∃ v, e = .returned v ∧ (∀ g' s' w', V g' s' w' r v) ∧ Grown w w'

/-- A function of the table is the program's, or it is proved what it tells. -/
def FunOk (P : Program) (gt : Nat → Option (List AV)) (f : Nat) (fn : Fun) : Prop :=
  (fn.prim = none ∧ ∃ F pops raw, P.funcs[f]? = some F ∧ compF P gt fn.keep raw pops F = some fn) ∨ ∃ p, fn.prim = some p ∧ PrimOk P gt f p

structure Ctx (P : Program) (gt : Nat → Option (List AV)) (prog : Nat → Option Fun) : Prop where
  prims : ∀ (f : Nat) (fn : Fun) p, prog f = some fn → fn.prim = some p → PrimOk P gt f p
  fns : ∀ (f : Nat) (fn : Fun), prog f = some fn → fn.prim = none → ∃ F pops raw, P.funcs[f]? = some F ∧ compF P gt fn.keep raw pops F = some fn
  ext : ∀ (f : Nat) (F : Func) (r : Nat), P.funcs[f]? = some F → F.body = none → externRow F.name = some r → (F.name == "runtime.NumGoroutine") = false ∧ Extern.findNext F = none ∧ ∃ e, Extern.find F = some e ∧ ExtOk r e P
  mixed : P.follows .mixedOrders = true
  ovl : ∀ (f : Nat) (F : Func), P.funcs[f]? = some F → F.body = none → isOvl F = true → Extern.findNext F = none ∧ Extern.find F = some (Extern.SlicesOverlaps.overlaps F.params F.resultTypes)
  mnz : ∀ (f : Nat) (F : Func), P.funcs[f]? = some F → F.body = none → F.name = mnzName → Extern.findNext F = none ∧ Extern.find F = some (Extern.BytealgMakeNoZero.makeNoZero F.params F.resultTypes)

/-- A loop whose round begins. -/
def LoopFrom (F : Fence) (n : Nat) (P : Program) (c : Code) (Q : Exit → Act → World → Prop) (a : Act) (w : World) : Prop :=
  ∀ (b : Frame) (k : List Item) (cs : List Frame), b.roundOf = F.round → F.fn b.fn → F.room (cs.length + 1 + n) →
    ∃ e a' w', Q e a' w' ∧ ArrivesIn (Machine.fenced P F) P (lone (b.atR a (.code c :: .inLoop c :: k)) cs w) b k cs e a' w'

structure SelfOk (P : Program) (gt : Nat → Option (List AV)) (sf : Self) : Prop where
  call : ∀ f args s r s', sf.call f args s = some (r, s') → ∀ g w vs, Inv (CRof P gt) g s w → GT gt g w → VL g s w args vs →
    Calls P f vs.toArray w fun e w' => ∃ v, e = .returned v ∧ Good (CRof P gt) g s w s' r v w'
  code : ∀ c e s x e' s', sf.code c e s = some (x, e', s') → ∀ n pops code, n < 1000 → compC P gt pops n code = c → ∀ g w rd a, (rd.isSome = true → noRf code = true) → Inv (CRof P gt) g s w → GT gt g w → VT g s w e a.tmps → a.tmps.size = n →
    code.wpIn (fence rd) 0 P (CodePost P gt g s w rd a x e' s') a w ∧ ∀ b, code = .loop b → LoopFrom (fence rd) 0 P b (CodePost P gt g s w rd a x e' s') a w
  body : ∀ (f : Nat) args s r s', sf.call f args s = some (r, s') → ∃ F b, P.funcs[f]? = some F ∧ F.body = some b

section ops
variable {rd : Option Nat} {P : Program} {gt : Nat → Option (List AV)} {g : G} {s s' : St} {w : World} {e : Tr} {a : Act} {o : Oper} {r : AV}

theorem cvO_ok (hG : GT gt g w) (hT : VT g s w e a.tmps) {x : Option Operand} {y : Option X} (h : cvO gt x = some y) : VO g s w (optX e y) (x.map a.eval) := by
  cases x with
  | none => simp only [cvO] at h; cases h; simp [optX, VO]
  | some x =>
    simp only [cvO] at h
    split at h
    · rename_i y' h1; cases h; simp only [optX, VO, Option.map_some]; exact cvX_ok hG hT h1
    · cases h
theorem cvO_some {x : Option Operand} {y : Option X} (h : cvO gt x = some y) : (optX e y).isSome = x.isSome := by
  cases x with
  | none => simp only [cvO] at h; cases h; rfl
  | some x =>
    simp only [cvO] at h
    split at h
    · cases h; rfl
    · cases h

/-- An operation that hands back a value. -/
theorem encN_lt {n : Int} {c : Nat} (h : c ∈ encN n) : c < 256 := by
  simp only [encN, List.mem_map] at h
  obtain ⟨x, _, rfl⟩ := h
  exact x.toNat_lt
theorem bytesOf_encN (n : Int) : bytesOf (encN n) = Utf8.encode n := by
  have : bytesOf (encN n) = ⟨(Utf8.encode n).data.toList.toArray⟩ := by simp [bytesOf, encN, Function.comp_def]
  rw [this]

theorem val_of {sem : Sem Value} {v : Value} {w' : World} (h : sem.run P w = .ok v w') : ((do pure (.value (← sem)) : Sem Next)).run P w = .ok (.value v) w' := by simp [h]

theorem ret1_cases {v : Option AV} (h : ret1 s v = some (r, s')) : v = some r ∧ s' = s := by
  unfold ret1 at h
  split at h
  · cases h; exact ⟨rfl, rfl⟩
  · cases h

theorem run_places {w : World} : ∀ {fs : List Field} {pl : List (Nat × Nat)}, places.go P fs = some pl → (fs.mapM (fun f => do pure (f.offset, ← sizeOf f.type)) : Sem (List (Nat × Nat))).run P w = .ok pl w
  | [], pl, h => by simp only [places.go] at h; cases h; simp
  | f :: fs, pl, h => by
    simp only [places.go] at h
    split at h
    · rename_i k r h1 h2
      cases h
      simp only [List.mapM_cons, Sem.run_bind, run_sizeOf h1, Result.andThen_ok, Sem.run_pure, run_places h2]
    · cases h

theorem build_ok (hI : Inv (CRof P gt) g s w) (hG : GT gt g w) (hT : VT g s w e a.tmps) {t : Nat} {z : AV} {pl : List (Nat × Nat)} {parts : Array (Nat × Operand)} {ps : List (Nat × Nat × X)} {m : List AV}
    (hz : zeroT P t = some z) (hp : places P t = some pl) (hps : cvParts gt pl parts.toList = some ps) (h : evParts e s ps z.cells = some (m, s')) :
    ∃ v, (Instr.build t (parts.map fun (i, x) => (i, a.eval x))).run P w = .ok v w ∧ Good (CRof P gt) g s w s' (.agg m) v w := by
  obtain ⟨zv, hz1, hz2⟩ := run_zeroValue (P := P) hz
  have hpl : (parts.map fun (i, x) => (i, a.eval x)).toList = parts.toList.map fun x => (x.1, a.eval x.2) := by simp
  have fin : ∀ place : Nat → Option (Nat × Nat), (∀ i x, pl[i]? = some x → place i = some x) →
      ∃ cells', Instr.fill place zv.cells (parts.map fun (i, x) => (i, a.eval x)).toList = some cells' ∧ Good (CRof P gt) g s w s' (.agg m) (.agg cells') w := by
    intro place hpp
    obtain ⟨cells', e1, g1, hI1, hL1, hV1, hE1⟩ := fill_ok (place := place) hpp hI hG hT hps (V_cells (hz2 g s w)) h
    rw [hpl]
    exact ⟨cells', e1, g1, hI1, hL1, by simp only [V]; exact ⟨cells'.toList, hV1, rfl⟩, hE1⟩
  unfold places at hp
  split at hp
  · rename_i fs hu
    obtain ⟨cells', e1, e2⟩ := fin (fun i => pl.toArray[i]?) (fun i x hx => by simpa using hx)
    refine ⟨_, ?_, e2⟩
    have hm : (fs.mapM (fun f => do pure (f.offset, ← sizeOf f.type)) : Sem (Array (Nat × Nat))).run P w = .ok pl.toArray w := by
      rw [Array.mapM_eq_mapM_toList]
      simp only [Sem.run_map, run_places hp, Result.andThen_ok]
    simp only [Instr.build, Sem.run_bind, hz1, Result.andThen_ok, run_underlying hu, hm, e1, Sem.run_pure]
  · rename_i n el hu
    split at hp <;> try (cases hp; done)
    rename_i k hk
    cases hp
    obtain ⟨cells', e1, e2⟩ := fin (fun i => some (i * k, k)) (fun i x hx => by
      simp only [List.getElem?_map, Option.map_eq_some_iff] at hx
      obtain ⟨j, hj, rfl⟩ := hx
      rw [List.getElem?_range (by rcases List.getElem?_eq_some_iff.1 hj with ⟨h, _⟩; simpa using h)] at hj
      cases hj; rfl)
    refine ⟨_, ?_, e2⟩
    simp only [Instr.build, Sem.run_bind, hz1, Result.andThen_ok, run_underlying hu, run_sizeOf hk, e1, Sem.run_pure]
  · cases hp

theorem run_eqGuard {op : BinOp} {t : Nat} {x y : Operand} {xv yv : Value} (h : op = .eql ∨ op = .neq → ((xv = .nilIface ∧ yv = .nilIface) → isConst x = true ∨ isConst y = true) ∧ ∀ l, xv ≠ .agg l) : (eqGuard op t x y xv yv).run P w = .ok () w := by
  by_cases hop : op = .eql ∨ op = .neq
  · obtain ⟨h1, h2⟩ := h hop
    clear h
    have key : ∀ op' : BinOp, (op' = .eql ∨ op' = .neq) → (eqGuard op' t x y xv yv).run P w = .ok () w := by
      intro op' hop'
      cases xv with
      | agg l => exact absurd rfl (h2 l)
      | nilIface =>
        cases yv with
        | nilIface =>
          have hc := h1 ⟨rfl, rfl⟩
          clear h1 h2
          rcases hop' with rfl | rfl
          · cases x <;> cases y <;> first | rfl | (simp [isConst] at hc)
          · cases x <;> cases y <;> first | rfl | (simp [isConst] at hc)
        | _ => clear h1 h2; rcases hop' with rfl | rfl <;> rfl
      | _ => clear h1 h2; rcases hop' with rfl | rfl <;> rfl
    exact key op hop
  · clear h
    cases op <;> first | rfl | (simp at hop)

theorem bin_shape {op : BinOp} {x y : AV} (h : binOp op x y = some r) : (∃ k n, x = .i k n) ∨ ∃ l, x = .s l := by
  unfold binOp at h
  split at h
  · exact .inl ⟨_, _, rfl⟩
  · exact .inl ⟨_, _, rfl⟩
  · exact .inl ⟨_, _, rfl⟩
  · exact .inl ⟨_, _, rfl⟩
  · exact .inr ⟨_, rfl⟩
  · cases h

def notNum : Value → Bool
  | .int _ _ => false
  | .float _ _ => false
  | .complex _ _ _ => false
  | .string _ => false
  | .agg _ => false
  | .tuple _ => false
  | _ => true

theorem binOp_eq {t : Nat} {xv yv : Value} (h : notNum xv = true) : Go.binOp .eql t xv yv = (do pure (.bool (← Op.equal t xv yv))) ∧ Go.binOp .neq t xv yv = (do pure (.bool (!(← Op.equal t xv yv)))) := by
  cases xv <;> first | (simp [notNum] at h; done) | (cases yv <;> exact ⟨rfl, rfl⟩)

theorem eqv_shape {k : EK} {x y : AV} {xv : Value} {b : Bool} (hx : V g s w x xv) (h : eqv k x y = some b) : notNum xv = true ∧ (xv = .nilIface → k = .ifc) := by
  have fin : ∀ {x : AV} {xv : Value}, V g s w x xv → (∀ kk n, x ≠ .i kk n) → (∀ l, x ≠ .s l) → (∀ l, x ≠ .agg l) → (∀ l, x ≠ .tup l) → x ≠ .any → (∀ n, x ≠ .ige n) → notNum xv = true := by
    intro x xv hx h1 h2 h3 h4 h5 h6
    cases x <;> simp only [V] at hx
    case i => exact absurd rfl (h1 _ _)
    case s => exact absurd rfl (h2 _)
    case agg => exact absurd rfl (h3 _)
    case tup => exact absurd rfl (h4 _)
    case any => exact absurd rfl h5
    case ige => exact absurd rfl (h6 _)
    case b => subst hx; rfl
    case np => subst hx; rfl
    case p => obtain ⟨_, rfl⟩ := hx; rfl
    case ep => obtain ⟨_, _, _, rfl, _⟩ := hx; rfl
    case nsl => subst hx; rfl
    case sl => obtain ⟨_, _, _, _, rfl, _⟩ := hx; rfl
    case ws =>
      rcases hx with ⟨rfl, _⟩ | ⟨⟨_, rfl⟩, _⟩ | ⟨_, _, _, _, rfl, _⟩ <;> rfl
    case wz => obtain ⟨_, rfl⟩ := hx; rfl
    case bl => obtain ⟨_, _, rfl, _⟩ := hx; rfl
    case sd => obtain ⟨_, _, _, _, rfl, _⟩ := hx; rfl
    case nm => subst hx; rfl
    case m => obtain ⟨_, rfl⟩ := hx; rfl
    case nf => subst hx; rfl
    case fn => obtain ⟨_, _, rfl⟩ := hx; rfl
    case yld => obtain ⟨_, rfl⟩ := hx; rfl
    case ni => subst hx; rfl
    case ifc => obtain ⟨_, _, rfl⟩ := hx; rfl
    case mth => obtain ⟨_, _, rfl⟩ := hx; rfl
  have nil : xv = .nilIface → x = .ni := by
    rintro rfl
    cases x <;> simp only [V] at hx
    case b => cases hx
    case i => cases hx
    case s => cases hx.1
    case np => cases hx
    case p => cases hx.2
    case ep => obtain ⟨_, _, _, h, _⟩ := hx; cases h
    case nsl => cases hx
    case sl => obtain ⟨_, _, _, _, h, _⟩ := hx; cases h
    case ws =>
      rcases hx with ⟨h, _⟩ | ⟨⟨_, h⟩, _⟩ | ⟨_, _, _, _, h, _⟩ <;> cases h
    case wz => obtain ⟨_, h⟩ := hx; cases h
    case bl => obtain ⟨_, _, h, _⟩ := hx; cases h
    case sd => obtain ⟨_, _, _, _, h, _⟩ := hx; cases h
    case nm => cases hx
    case m => cases hx.2
    case nf => cases hx
    case fn => obtain ⟨_, _, h⟩ := hx; cases h
    case yld => cases hx.2
    case ni => rfl
    case ifc => obtain ⟨_, _, h⟩ := hx; cases h
    case mth => obtain ⟨_, _, h⟩ := hx; cases h
    case agg => obtain ⟨_, _, h⟩ := hx; cases h
    case tup => obtain ⟨_, _, h⟩ := hx; cases h
    case any => obtain ⟨_, _, h⟩ := hx; cases h
    case ige => obtain ⟨_, h, _⟩ := hx; cases h
  cases k <;> simp only [eqv, eqB, eqP, eqS, eqM, eqF, eqI] at h <;> split at h <;> first
    | (cases h; done)
    | (exact ⟨fin hx (fun _ _ hh => by cases hh) (fun _ hh => by cases hh) (fun _ hh => by cases hh) (fun _ hh => by cases hh) (fun hh => by cases hh) (fun _ hh => by cases hh), fun hh => by first | rfl | (cases nil hh)⟩)

theorem eqKind_is {t : Nat} {d : TypeDesc} {x y : Operand} {k : EK} (hu : P.underlying t = some d) (h : eqKind P d x y = some k) : KindIs P t k ∧ (k = .ifc → isConst x = true ∨ isConst y = true) := by
  unfold eqKind at h
  split at h
  · cases h; exact ⟨hu, fun hh => by cases hh⟩
  · split at h <;> cases h
    rename_i n hn
    exact ⟨⟨_, n, hu, hn⟩, fun hh => by cases hh⟩
  · cases h; exact ⟨⟨_, hu⟩, fun hh => by cases hh⟩
  · cases h; exact ⟨⟨_, _, hu⟩, fun hh => by cases hh⟩
  · cases h; exact ⟨⟨_, _, _, hu⟩, fun hh => by cases hh⟩
  · split at h <;> cases h
    rename_i hc
    exact ⟨⟨_, hu⟩, fun _ => by simpa using hc⟩
  · cases h

theorem strOf_nmOf (n : String) : strOf (nmOf n) = n := by
  unfold strOf nmOf
  rw [List.map_map]
  have : (Char.ofNat ∘ Char.toNat) = id := by funext c; simp
  rw [this]; simp

theorem op_simple {self : Self} (hI : Inv (CRof P gt) g s w) (hG : GT gt g w) (hT : VT g s w e a.tmps) {pop : Bool} {aop : AOp} (hc : compOp0 P gt pop o = some aop) (hcall : ∀ c, o.op ≠ .call c) (h : evOp self e s aop = some (r, s')) :
    Does rd P o a w (Good (CRof P gt) g s w s' r) := by
  unfold compOp0 at hc
  split at hc
  case h_1 x ho => -- move
    split at hc <;> try (cases hc; done)
    rename_i y hy
    cases hc
    simp only [evOp] at h; cases h
    exact does_value (by simp [ho]) (by simp [execOp, ho]) (good_same hI (cvX_ok hG hT hy))
  case h_2 x ho => -- assign
    split at hc <;> try (cases hc; done)
    rename_i y hy
    cases hc
    simp only [evOp] at h; cases h
    exact does_value (by simp [ho]) (by simp [execOp, ho]) (good_same hI (cvX_ok hG hT hy))
  case h_3 c x y ho => -- pick
    split at hc <;> try (cases hc; done)
    rename_i c' x' y' h1 h2 h3
    cases hc
    simp only [evOp] at h
    have hv := cvX_ok hG hT h1
    split at h <;> try (cases h; done)
    · rename_i hb
      rw [hb] at hv; simp only [V] at hv
      cases h
      exact does_value (by simp [ho]) (by simp [execOp, ho, hv, asBool]) (good_same hI (cvX_ok hG hT h2))
    · rename_i hb
      rw [hb] at hv; simp only [V] at hv
      cases h
      exact does_value (by simp [ho]) (by simp [execOp, ho, hv, asBool]) (good_same hI (cvX_ok hG hT h3))
  case h_4 t ho => -- alloc
    split at hc <;> try (cases hc; done)
    rename_i z hz
    cases hc
    simp only [evOp] at h; cases h
    obtain ⟨v, w', e1, e2⟩ := alloc_ok hI hz
    exact does_value (by simp [ho]) (by simp only [execOp, ho]; exact val_of e1) e2
  case h_5 t x ho => -- box
    split at hc <;> try (cases hc; done)
    rename_i n y hn hy
    cases hc
    simp only [evOp] at h
    split at h <;> try (cases h; done)
    cases h
    obtain ⟨v, w', e1, e2⟩ := box_ok (P := P) hI t (cvX_ok hG hT hy)
    exact does_value (by simp [ho]) (by simp only [execOp, ho]; exact val_of e1) e2
  case h_6 t parts ho => -- build
    split at hc <;> try (cases hc; done)
    rename_i z pl hz hpl
    split at hc <;> try (cases hc; done)
    rename_i ps hps
    cases hc
    simp only [evOp] at h
    split at h <;> try (cases h; done)
    rename_i m s1 hm
    cases h
    obtain ⟨v, e1, e2⟩ := build_ok hI hG hT hz hpl hps hm
    exact does_value (by simp [ho]) (by simp only [execOp, ho]; exact val_of e1) e2
  case h_7 t len parts ho => -- buildSlice
    split at hc <;> try (cases hc; done)
    rename_i el hu
    split at hc <;> try (cases hc; done)
    rename_i es z xs hn hz hx
    split at hc <;> try (cases hc; done)
    rename_i hl
    cases hc
    simp only [evOp] at h
    split at h <;> try (cases h; done)
    rename_i vs s1 hp
    split at h <;> try (cases h; done)
    rename_i hc2
    cases h
    obtain ⟨v, w', e1, e2⟩ := bsl_ok hI hG hT hu hn hz hx hl.1 hl.2 hp hc2.1 hc2.2
    exact does_value (by simp [ho]) (by simp only [execOp, ho]; exact val_of e1) e2
  case h_8 t x ho => -- load
    split at hc <;> try (cases hc; done)
    rename_i ag n y hag hn hy
    cases hc
    have hv := cvX_ok hG hT hy
    simp only [evOp] at h
    split at h
    · rename_i l hl
      obtain ⟨v, e1, e2⟩ := ld_ok (P := P) hI hag hn hv hl
      split at h <;> try (cases h; done)
      rename_i l' s1 hp
      cases h
      simp only [V] at e2
      obtain ⟨vs, k1, rfl⟩ := e2
      obtain ⟨g1, hI1, hL1, hV1, hE1⟩ := pubL_ok hI k1 hp
      exact does_value (by simp [ho]) (by simp only [execOp, ho]; exact val_of e1) ⟨g1, hI1, hL1, by simp only [V]; exact ⟨vs, hV1, rfl⟩, hE1⟩
    · rename_i v' hne hl
      obtain ⟨v, e1, e2⟩ := ld_ok (P := P) hI hag hn hv hl
      cases h
      exact does_value (by simp [ho]) (by simp only [execOp, ho]; exact val_of e1) (good_same hI e2)
    · cases h
  case h_9 t x y ho => -- store
    split at hc <;> try (cases hc; done)
    rename_i n x' y' hn hx hy
    cases hc
    simp only [evOp] at h
    split at h <;> try (cases h; done)
    rename_i s1 hs
    cases h
    obtain ⟨w', e1, e2⟩ := st_ok (P := P) hI hn (cvX_ok hG hT hx) (cvX_ok hG hT hy) hs
    exact does_skip (by simp [ho]) (by simp [execOp, ho, e1]) e2
  case h_10 x ho => -- nilCheck
    split at hc <;> try (cases hc; done)
    rename_i y hy
    cases hc
    have hv := cvX_ok hG hT hy
    simp only [evOp] at h
    split at h <;> try (cases h; done)
    all_goals
      rename_i heq
      cases h
      have hv' := hv
      rw [heq] at hv
      refine does_value (v := a.eval x) (w' := w) (by simp [ho]) ?_ (good_same hI hv)
      simp only [V] at hv
      simp only [execOp, ho]
    · obtain ⟨_, hv⟩ := hv; rw [hv]; rfl
    · obtain ⟨_, _, _, hv, _⟩ := hv; rw [hv]; rfl
    · obtain ⟨_, _, hv⟩ := hv; rw [hv]; rfl
    · obtain ⟨_, _, hv⟩ := hv; rw [hv]; rfl
  case h_11 op t x y yt ho => -- binOp
    have guard : ∀ {x' : X}, cvX gt x = some x' → ((∃ k n, x'.ev e = .i k n) ∨ ∃ l, x'.ev e = .s l) → (eqGuard op t x y (a.eval x) (a.eval y)).run P w = .ok () w := by
      intro x' hx hs
      have hv := cvX_ok hG hT hx
      refine run_eqGuard (fun _ => ?_)
      rcases hs with ⟨k, n, hs⟩ | ⟨l, hs⟩
      · rw [hs] at hv; simp only [V] at hv; rw [hv]
        exact ⟨(fun hh => by cases hh.1), (fun _ hh => by cases hh)⟩
      · rw [hs] at hv; simp only [V] at hv; rw [hv.1]
        exact ⟨(fun hh => by cases hh.1), (fun _ hh => by cases hh)⟩
    have run : ∀ {v : Value}, (eqGuard op t x y (a.eval x) (a.eval y)).run P w = .ok () w → (Go.binOp op t (a.eval x) (a.eval y)).run P w = .ok v w → (execOp a.eval o).run P w = .ok (.value v) w := by
      intro v h1 h2
      simp [execOp, ho, h1, h2]
    split at hc
    · rename_i x' y' k hx hy hu
      cases hc
      simp only [evOp] at h
      obtain ⟨h1, rfl⟩ := ret1_cases h
      obtain ⟨v, e1, e2⟩ := bin_ok (P := P) (cvX_ok hG hT hx) (cvX_ok hG hT hy) h1 t
      exact does_value (by simp [ho]) (run (guard hx (bin_shape h1)) e1) (good_same hI e2)
    · rename_i x' y' hx hy hu
      cases hc
      simp only [evOp] at h
      obtain ⟨h1, rfl⟩ := ret1_cases h
      obtain ⟨v, e1, e2⟩ := bin_ok (P := P) (cvX_ok hG hT hx) (cvX_ok hG hT hy) h1 t
      exact does_value (by simp [ho]) (run (guard hx (bin_shape h1)) e1) (good_same hI e2)
    · rename_i x' y' d _ _ hx hy hu
      have eqcase : ∀ {k : EK} {b : Bool}, eqKind P d x y = some k → eqv k (x'.ev e) (y'.ev e) = some b → (eqGuard op t x y (a.eval x) (a.eval y)).run P w = .ok () w ∧
          (Go.binOp .eql t (a.eval x) (a.eval y)).run P w = .ok (.bool b) w ∧ (Go.binOp .neq t (a.eval x) (a.eval y)).run P w = .ok (.bool (!b)) w := by
        intro k b hk hb
        have hv := cvX_ok hG hT hx
        obtain ⟨h1, h2⟩ := eqKind_is hu hk
        obtain ⟨h3, h4⟩ := eqv_shape hv hb
        have h5 := eqv_ok (P := P) hv (cvX_ok hG hT hy) h1 hb
        refine ⟨run_eqGuard (fun _ => ⟨(fun hh => h2 (h4 hh.1)), (fun l hh => by rw [hh] at h3; cases h3)⟩), ?_, ?_⟩
        · rw [(binOp_eq h3).1]; simp [h5]
        · rw [(binOp_eq h3).2]; simp [h5]
      split at hc <;> try (cases hc; done)
      · rename_i k hk
        cases hc
        simp only [evOp] at h
        split at h <;> try (cases h; done)
        rename_i b hb
        cases h
        obtain ⟨e1, e2, _⟩ := eqcase hk hb
        exact does_value (by simp [ho]) (run e1 e2) (good_same hI (by simp [V]))
      · rename_i k hk
        cases hc
        simp only [evOp] at h
        split at h <;> try (cases h; done)
        rename_i b hb
        cases h
        obtain ⟨e1, _, e2⟩ := eqcase hk hb
        exact does_value (by simp [ho]) (run e1 e2) (good_same hI (by simp [V]))
    · cases hc
  case h_12 op t x ho => -- unOp
    split at hc <;> try (cases hc; done)
    rename_i x' hx
    cases hc
    simp only [evOp] at h
    obtain ⟨h1, rfl⟩ := ret1_cases h
    obtain ⟨v, e1, e2⟩ := un_ok (P := P) (cvX_ok hG hT hx) h1
    exact does_value (by simp [ho]) (by simp only [execOp, ho]; exact val_of e1) (good_same hI e2)
  case h_13 t u x ho => -- convert
    split at hc <;> try (cases hc; done)
    · rename_i k1 k x' h1 h2 hx
      cases hc
      have hv := cvX_ok hG hT hx
      simp only [evOp] at h
      split at h <;> try (cases h; done)
      rename_i k2 n heq
      cases h
      rw [heq] at hv; simp only [V] at hv
      exact does_value (by simp [ho]) (by simp only [execOp, ho]; exact val_of (v := .int k (k.wrap n)) (by simp [Go.convert, run_underlying h1, run_underlying h2, hv, Conv.intToInt])) (good_same hI (by simp [V]))
    · rename_i x' h1 h2 hx
      cases hc
      have hv := cvX_ok hG hT hx
      simp only [evOp] at h
      split at h <;> try (cases h; done)
      rename_i l heq
      cases h
      have hv' := hv
      rw [heq] at hv; simp only [V] at hv
      exact does_value (v := a.eval x) (by simp [ho]) (by simp only [execOp, ho]; exact val_of (by simp [Go.convert, run_underlying h1, run_underlying h2, hv.1])) (good_same hI (by rw [heq] at hv'; exact hv'))
    · rename_i k x' h1 h2 hx
      cases hc
      have hv := cvX_ok hG hT hx
      simp only [evOp] at h
      split at h <;> try (cases h; done)
      rename_i k2 n heq
      cases h
      rw [heq] at hv; simp only [V] at hv
      refine does_value (v := .string (Utf8.encode n)) (by simp [ho]) (by simp only [execOp, ho]; exact val_of (by simp [Go.convert, run_underlying h1, run_underlying h2, hv, Conv.intToString])) (good_same hI ?_)
      simp only [V]
      exact ⟨by rw [bytesOf_encN], fun c hc => encN_lt hc⟩
    · rename_i el x' h1 h2 hx
      split at hc <;> try (cases hc; done)
      rename_i he
      cases hc
      have hv := cvX_ok hG hT hx
      simp only [evOp] at h
      split at h <;> try (cases h; done)
      · rename_i heq
        cases h
        rw [heq] at hv
        obtain ⟨v, e1, e2⟩ := cvBS_ok (P := P) h1 he h2 hv (r := []) rfl
        exact does_value (by simp [ho]) (by simp only [execOp, ho]; exact val_of e1) (good_same hI e2)
      · rename_i heq
        cases h
        rw [heq] at hv
        obtain ⟨v, e1, e2⟩ := cvBS_ok (P := P) h1 he h2 hv (r := []) rfl
        exact does_value (by simp [ho]) (by simp only [execOp, ho]; exact val_of e1) (good_same hI e2)
      · rename_i es xs m heq
        split at h <;> try (cases h; done)
        rename_i hok
        split at h <;> try (cases h; done)
        rename_i l hl
        cases h
        rw [heq] at hv
        obtain ⟨v, e1, e2⟩ := cvBS_ok (P := P) h1 he h2 hv (r := l) (by simp only; rw [if_pos hok]; exact hl)
        exact does_value (by simp [ho]) (by simp only [execOp, ho]; exact val_of e1) (good_same hI e2)
      · rename_i f es xs heq
        split at h <;> try (cases h; done)
        rename_i l hl
        cases h
        rw [heq] at hv
        rcases V_ws.1 hv with ⟨hv2, rfl⟩ | ⟨hv2, rfl⟩ | hv2
        · cases hl
          obtain ⟨v, e1, e2⟩ := cvBS_ok (P := P) h1 he h2 hv2 (r := []) rfl
          exact does_value (by simp [ho]) (by simp only [execOp, ho]; exact val_of e1) (good_same hI e2)
        · cases hl
          obtain ⟨v, e1, e2⟩ := cvBS_ok (P := P) h1 he h2 hv2 (r := []) rfl
          exact does_value (by simp [ho]) (by simp only [execOp, ho]; exact val_of e1) (good_same hI e2)
        · obtain ⟨v, e1, e2⟩ := cvBS_ok (P := P) h1 he h2 hv2 (r := l) (by simp only; rw [if_pos capM_ok.1]; exact hl)
          exact does_value (by simp [ho]) (by simp only [execOp, ho]; exact val_of e1) (good_same hI e2)
      · rename_i id es off n x0 heq
        split at h <;> try (cases h; done)
        rename_i hes
        subst hes
        split at h <;> try (cases h; done)
        rename_i ys hr
        split at h <;> try (cases h; done)
        rename_i l hl
        cases h
        rw [heq] at hv
        obtain ⟨v, e1, e2⟩ := cvBL_ok (P := P) hI h1 he h2 hv hr hl
        exact does_value (by simp [ho]) (by simp only [execOp, ho]; exact val_of e1) (good_same hI e2)
    · rename_i el x' h1 h2 hx
      split at hc <;> try (cases hc; done)
      rename_i he
      cases hc
      have hv := cvX_ok hG hT hx
      simp only [evOp] at h
      split at h <;> try (cases h; done)
      rename_i l heq
      split at h <;> try (cases h; done)
      cases h
      rw [heq] at hv
      obtain ⟨v, w', e1, e2⟩ := cvSB_ok (P := P) hI h2 he h1 hv
      exact does_value (by simp [ho]) (by simp only [execOp, ho]; exact val_of e1) e2
    all_goals
      rename_i tt x' h1 h2 hx
      unfold unsafeOp at hc
      split at hc <;> try (cases hc; done)
      rename_i n hn
      split at hc <;> try (cases hc; done)
      rename_i hl
      cases hc
      have hv := cvX_ok hG hT hx
      simp only [evOp] at h
      split at h <;> try (cases h; done)
      rename_i id heq
      split at h <;> try (cases h; done)
      rename_i T' l hb
      split at h <;> try (cases h; done)
      rename_i hcond
      obtain ⟨rfl, hlen, _⟩ := hcond
      cases h
      rw [heq] at hv
      exact does_value (by simp [ho]) (by simp only [execOp, ho]; exact val_of (cvU_ok (P := P) hI (by first | exact .inl ⟨h1, h2⟩ | exact .inr ⟨h1, h2⟩) hn hl.1 hl.2 hb hlen hv)) (good_same hI hv)
  case h_14 t x ho => -- makeInterface
    split at hc <;> try (cases hc; done)
    rename_i d x' hne hu hx
    cases hc
    simp only [evOp] at h
    split at h <;> try (cases h; done)
    rename_i v' s1 hp
    cases h
    obtain ⟨g1, hI1, hL1, hV1, hE1⟩ := pub_ok hI (cvX_ok hG hT hx) hp
    exact does_value (v := .iface t (a.eval x)) (by simp [ho]) (by
      simp only [execOp, ho]
      refine val_of ?_
      simp only [Instr.makeInterface, Sem.run_bind, run_underlying hu, Result.andThen_ok]
      cases d <;> first | rfl | exact absurd rfl (hne _)) ⟨g1, hI1, hL1, by simp only [V]; exact ⟨_, hV1, rfl⟩, hE1⟩
  case h_15 f first caps ho => -- makeFunc
    split at hc <;> try (cases hc; done)
    rename_i l hf hx
    cases hc
    simp only [evOp] at h
    split at h <;> try (cases h; done)
    rename_i vs s1 hp
    cases h
    obtain ⟨g1, hI1, hL1, hV1, hE1⟩ := pubL_ok hI (cvXs_ok hG hT hx) hp
    have hfirst : first = #[] := by
      apply Array.toList_inj.1; simpa using hf
    exact does_value (v := .func (.func f) #[] (caps.map a.eval)) (by simp [ho]) (by simp [execOp, ho, Instr.makeFunc, hfirst]) ⟨g1, hI1, hL1, by simp only [V]; exact ⟨_, hV1, by simp; apply Array.toList_inj.1; simp⟩, hE1⟩
  case h_16 t x lo hi mx ho => -- slice
    split at hc <;> try (cases hc; done)
    · rename_i x' lo' hi' hu hx hlo hhi hmx
      cases hc
      have hv := cvX_ok hG hT hx
      simp only [evOp] at h
      split at h <;> try (cases h; done)
      rename_i l heq
      split at h <;> try (cases h; done)
      rename_i p q hb
      cases h
      rw [heq] at hv
      have hm : mx = none := by
        cases mx with
        | none => rfl
        | some m =>
          simp only [cvO] at hmx
          split at hmx <;> cases hmx
      subst hm
      obtain ⟨v, e1, e2⟩ := slS_ok (P := P) hu hv (cvO_ok hG hT hlo) (cvO_ok hG hT hhi) hb
      exact does_value (by simp [ho]) (by simp only [execOp, ho]; exact val_of e1) (good_same hI e2)
    · rename_i el x' lo' hi' mx' hu hx hlo hhi hmx
      split at hc <;> try (cases hc; done)
      rename_i n hn
      split at hc <;> try (cases hc; done)
      rename_i hb3
      cases hc
      simp only [evOp] at h
      obtain ⟨v, e1, e2⟩ := slc_ok (P := P) hI hu hn (cvX_ok hG hT hx) (cvO_ok hG hT hlo) (cvO_ok hG hT hhi) (cvO_ok hG hT hmx) h (fun hs => by cases mx' <;> cases hi' <;> simp_all [optX])
      exact does_value (by simp [ho]) (by simp only [execOp, ho]; exact val_of e1) e2
    · rename_i len el x' lo' hi' hu hx hlo hhi hmx
      split at hc <;> try (cases hc; done)
      rename_i n hn
      cases hc
      have hv := cvX_ok hG hT hx
      simp only [evOp] at h
      split at h <;> try (cases h; done)
      rename_i id off p q heq hb
      cases h
      rw [heq] at hv
      have hm : mx = none := by
        cases mx with
        | none => rfl
        | some m =>
          simp only [cvO] at hmx
          split at hmx <;> cases hmx
      subst hm
      obtain ⟨v, e1, e2⟩ := slcA_ok (P := P) hI hu hn (by omega) hv (cvO_ok hG hT hlo) (cvO_ok hG hT hhi) hb
      exact does_value (by simp [ho]) (by simp only [execOp, ho]; exact val_of e1) (good_same hI e2)
  case h_17 t x f ho => -- fieldAddr
    split at hc <;> try (cases hc; done)
    rename_i fs x' hu hx
    split at hc <;> try (cases hc; done)
    rename_i fl hf
    split at hc <;> try (cases hc; done)
    rename_i n hn
    cases hc
    simp only [evOp] at h
    have hr : addOff fl.offset (x'.ev e) = some r ∧ s' = s := by cases hxe : x'.ev e <;> simp only [hxe] at h <;> cases h <;> exact ⟨rfl, rfl⟩
    obtain ⟨hr, rfl⟩ := hr
    obtain ⟨v, e1, e2⟩ := fa_ok (P := P) (f := f) hu hf hn (cvX_ok hG hT hx) hr
    exact does_value (by simp [ho]) (by simp only [execOp, ho]; exact val_of e1) (good_same hI e2)
  case h_18 t x f ho => -- field
    split at hc <;> try (cases hc; done)
    rename_i fs x' hu hx
    split at hc <;> try (cases hc; done)
    rename_i fl hf
    split at hc <;> try (cases hc; done)
    rename_i ag n hag hn
    cases hc
    have hv := cvX_ok hG hT hx
    simp only [evOp] at h
    split at h <;> try (cases h; done)
    rename_i l heq
    split at h <;> try (cases h; done)
    rename_i m hcut
    obtain ⟨h1, rfl⟩ := ret1_cases h
    rw [heq] at hv
    obtain ⟨v, e1, e2⟩ := fld_ok (P := P) (f := f) hu hf hag hn hv hcut h1
    exact does_value (by simp [ho]) (by simp only [execOp, ho]; exact val_of e1) (good_same hI e2)
  case h_19 t x i ho => -- indexAddr
    split at hc <;> try (cases hc; done)
    · rename_i el x' i' hu hx hi
      split at hc <;> try (cases hc; done)
      rename_i n hn
      cases hc
      have hv := cvX_ok hG hT hx
      simp only [evOp] at h
      split at h <;> try (cases h; done)
      rename_i e0 xs m j heq hj
      split at h <;> try (cases h; done)
      rename_i hes
      subst hes
      split at h <;> try (cases h; done)
      rename_i u hu2
      cases h
      rw [heq] at hv
      obtain ⟨v, e1, e2⟩ := ia_ok (P := P) hu hn hv (cvX_ok hG hT hi) hj hu2
      exact does_value (by simp [ho]) (by simp only [execOp, ho]; exact val_of e1) (good_same hI e2)
      rename_i f e0 xs j heq hj
      split at h <;> try (cases h; done)
      rename_i hes
      subst hes
      split at h <;> try (cases h; done)
      rename_i u hu2
      cases h
      rw [heq] at hv
      rcases V_ws.1 hv with ⟨_, rfl⟩ | ⟨_, rfl⟩ | hv2
      · simp at hu2
      · simp at hu2
      · obtain ⟨v, e1, e2⟩ := ia_ok (P := P) hu hn hv2 (cvX_ok hG hT hi) hj hu2
        refine does_value (by simp [ho]) (by simp only [execOp, ho]; exact val_of e1) (good_same hI ?_)
        simp only [V] at e2 ⊢
        obtain ⟨b, o, cs, q1, _, q3⟩ := e2
        refine ⟨b, o, cs, q1, trivial, fun _ => ?_⟩
        obtain ⟨p1, p2, p3⟩ := q3 capM_ok.1
        exact ⟨p1, p2, by cases f <;> exact p3⟩
      rename_i id e0 off m0 y0 j heq hj
      split at h <;> try (cases h; done)
      rename_i hes
      obtain ⟨rfl, hlt⟩ := hes
      cases h
      rw [heq] at hv
      obtain ⟨v, e1, e2⟩ := iaB_ok (P := P) hu hn hv (cvX_ok hG hT hi) hj hlt
      exact does_value (by simp [ho]) (by simp only [execOp, ho]; exact val_of e1) (good_same hI e2)
    · rename_i len el x' i' hu hx hi
      split at hc <;> try (cases hc; done)
      rename_i k hk
      cases hc
      simp only [evOp] at h
      split at h <;> try (cases h; done)
      rename_i n hn
      split at h <;> try (cases h; done)
      rename_i hlt
      have hr : addOff (n * k) (x'.ev e) = some r ∧ s' = s := by cases hxe : x'.ev e <;> simp only [hxe] at h <;> cases h <;> exact ⟨rfl, rfl⟩
      obtain ⟨hr, rfl⟩ := hr
      obtain ⟨v, e1, e2⟩ := iaA_ok (P := P) hu hk (cvX_ok hG hT hx) (cvX_ok hG hT hi) hn hlt hr
      exact does_value (by simp [ho]) (by simp only [execOp, ho]; exact val_of e1) (good_same hI e2)
  case h_20 t x i ho => -- index
    split at hc <;> try (cases hc; done)
    · rename_i x' i' hu hx hi
      cases hc
      have hv := cvX_ok hG hT hx
      simp only [evOp] at h
      split at h <;> try (cases h; done)
      rename_i l n heq hn
      split at h <;> try (cases h; done)
      rename_i c hcc
      cases h
      rw [heq] at hv
      obtain ⟨v, e1, e2⟩ := ixS_ok (P := P) hu hv (cvX_ok hG hT hi) hn hcc
      exact does_value (by simp [ho]) (by simp only [execOp, ho]; exact val_of e1) (good_same hI e2)
    · rename_i len el x' i' hu hx hi
      split at hc <;> try (cases hc; done)
      rename_i ag k hag hk
      cases hc
      have hv := cvX_ok hG hT hx
      simp only [evOp] at h
      split at h <;> try (cases h; done)
      rename_i l n heq hn
      split at h <;> try (cases h; done)
      rename_i hlt
      split at h <;> try (cases h; done)
      rename_i m hcut
      obtain ⟨h1, rfl⟩ := ret1_cases h
      rw [heq] at hv
      obtain ⟨v, e1, e2⟩ := ixA_ok (P := P) hu hag hk hv (cvX_ok hG hT hi) hn hlt hcut h1
      exact does_value (by simp [ho]) (by simp only [execOp, ho]; exact val_of e1) (good_same hI e2)
  case h_21 x n ho => -- extract
    split at hc <;> try (cases hc; done)
    rename_i x' hx
    cases hc
    have hv := cvX_ok hG hT hx
    simp only [evOp] at h
    split at h <;> try (cases h; done)
    rename_i l heq
    obtain ⟨h1, rfl⟩ := ret1_cases h
    rw [heq] at hv; simp only [V] at hv
    obtain ⟨vs, k1, k2⟩ := hv
    obtain ⟨v, e1, e2⟩ := VL_get k1 h1
    exact does_value (v := v) (by simp [ho]) (by simp [execOp, ho, Instr.extract, k2, e1]) (good_same hI e2)
  case h_22 t x ho => -- range
    split at hc <;> try (cases hc; done)
    rename_i x' hu hx
    cases hc
    have hv := cvX_ok hG hT hx
    simp only [evOp] at h
    split at h <;> try (cases h; done)
    rename_i l heq
    cases h
    rw [heq] at hv
    obtain ⟨v, w', e1, e2⟩ := siter_ok (P := P) hI hu hv
    exact does_value (by simp [ho]) (by simp only [execOp, ho]; exact val_of e1) e2
  case h_23 x ho => -- next
    split at hc <;> try (cases hc; done)
    rename_i x' hx
    cases hc
    have hv := cvX_ok hG hT hx
    simp only [evOp] at h
    split at h <;> try (cases h; done)
    rename_i id heq
    split at h <;> try (cases h; done)
    rename_i l pos hb
    rw [heq] at hv
    obtain ⟨v, w', e1, e2⟩ := snext_ok (P := P) (ty := o.type) hI hv hb h
    exact does_value (by simp [ho]) (by simp only [execOp, ho]; exact val_of e1) e2
  case h_24 c ho => exact absurd ho (hcall c)
  case h_25 t ho => -- makeMap
    cases hc
    simp only [evOp] at h; cases h
    obtain ⟨v, w', e1, e2⟩ := mkm_ok (P := P) hI t
    exact does_value (by simp [ho]) (by simp only [execOp, ho]; exact val_of e1) e2
  case h_26 t m k v ho => -- insert
    split at hc <;> try (cases hc; done)
    rename_i kk et m' k' v' ht hm hk hv
    cases hc
    simp only [evOp] at h
    split at h <;> try (cases h; done)
    rename_i id v1 s1 heq hp
    split at h <;> try (cases h; done)
    rename_i es hb
    split at h <;> try (cases h; done)
    rename_i es' hu
    cases h
    have hm1 := cvX_ok hG hT hm
    rw [heq] at hm1
    obtain ⟨g1, hI1, hL1, hV1, hE1⟩ := pub_ok hI (cvX_ok hG hT hv) hp
    obtain ⟨w', e1, e2⟩ := ins_ok (P := P) hI1 ht (V_mono hL1 _ _ hm1) (V_mono hL1 _ _ (cvX_ok hG hT hk)) hV1 hb hu
    exact does_skip (by simp [ho]) (by simp [execOp, ho, e1]) (Good.from hL1 hE1 e2)
  case h_27 t m k v ho => -- mapUpdate
    split at hc <;> try (cases hc; done)
    rename_i kk et m' k' v' ht hm hk hv
    cases hc
    simp only [evOp] at h
    split at h <;> try (cases h; done)
    rename_i id v1 s1 heq hp
    split at h <;> try (cases h; done)
    rename_i es hb
    split at h <;> try (cases h; done)
    rename_i es' hu
    cases h
    have hm1 := cvX_ok hG hT hm
    rw [heq] at hm1
    obtain ⟨g1, hI1, hL1, hV1, hE1⟩ := pub_ok hI (cvX_ok hG hT hv) hp
    obtain ⟨w', e1, e2⟩ := ins_ok (P := P) hI1 ht (V_mono hL1 _ _ hm1) (V_mono hL1 _ _ (cvX_ok hG hT hk)) hV1 hb hu
    exact does_skip (by simp [ho]) (by simp [execOp, ho, e1]) (Good.from hL1 hE1 e2)
  case h_28 t m k ok ho => -- lookup
    split at hc <;> try (cases hc; done)
    rename_i kk et m' k' ht hm hk
    split at hc <;> try (cases hc; done)
    rename_i z hz
    cases hc
    simp only [evOp] at h
    split at h <;> try (cases h; done)
    rename_i es hes
    split at h <;> try (cases h; done)
    · rename_i hr
      cases h
      obtain ⟨v, e1, e2⟩ := look_ok (P := P) hI ht hz (cvX_ok hG hT hm) (cvX_ok hG hT hk) hes hr ok
      exact does_value (by simp [ho]) (by simp only [execOp, ho]; exact val_of e1) (good_same hI e2)
    · rename_i v0 hr
      cases h
      obtain ⟨v, e1, e2⟩ := look_ok (P := P) hI ht hz (cvX_ok hG hT hm) (cvX_ok hG hT hk) hes hr ok
      exact does_value (by simp [ho]) (by simp only [execOp, ho]; exact val_of e1) (good_same hI e2)
  case h_29 t x y ho => -- makeSlice
    split at hc <;> try (cases hc; done)
    rename_i el x' y' hu hx hy
    split at hc <;> try (cases hc; done)
    rename_i i z hi hz
    split at hc <;> try (cases hc; done)
    rename_i hcc
    cases hc
    have hv := cvX_ok hG hT hx
    have hw := cvX_ok hG hT hy
    simp only [evOp] at h
    split at h <;> try (cases h; done)
    rename_i k1 n k2 c e1 e2
    split at h <;> try (cases h; done)
    rename_i hnc
    cases h
    rw [e1] at hv
    rw [e2] at hw
    obtain ⟨v, w', q1, q2⟩ := mks_ok (P := P) hI hu hi hz hcc hv hw hnc
    exact does_value (by simp [ho]) (by simp only [execOp, ho]; exact val_of q1) q2
  case h_30 name first caps ho => -- makeFunc of a method
    split at hc <;> try (cases hc; done)
    rename_i x hx1 hx2
    split at hc <;> try (cases hc; done)
    rename_i y hy
    cases hc
    have hv := cvX_ok hG hT hy
    simp only [evOp] at h
    split at h <;> try (cases h; done)
    rename_i t v heq
    cases h
    rw [heq] at hv
    have h1 : first.map a.eval = #[a.eval x] := by apply Array.toList_inj.1; simp [hx1]
    have h2 : caps.map a.eval = #[] := by apply Array.toList_inj.1; simp [hx2]
    exact does_value (v := .func (.method name) #[a.eval x] #[]) (by simp [ho]) (by simp [execOp, ho, Instr.makeFunc, h1, h2]) (good_same hI (by simp only [V] at hv ⊢; exact ⟨_, hv, by rw [strOf_nmOf]⟩))
  case h_31 => cases hc
end ops
end Go.Proofs.YtfaodjpibdhdjaaDoor.Am
