/-
  From an evaluation of the abstract machine to a law's call in the model: it returns true, and nothing that was there has turned.
-/
import Derived.Test.YtfaodjpibdhdjaaDoorAmSound
import Derived.ProofKit
set_option linter.all false
set_option linter.unusedVariables false
set_option linter.unusedSimpArgs false
set_option linter.unusedSectionVars false
set_option linter.constructorNameAsVariable false
namespace Go.Proofs.YtfaodjpibdhdjaaDoor.Am
section
variable {P : Program} {gt : Nat → Option (List AV)} {prog : Nat → Option Fun}

def s0 : St := { nb := 0, boxes := [], nt := 0, toks := [], lo := 0 }
def g0 (W : World) : G := { base := W.heap.size, bx := fun _ => 0, tk := fun _ => ⟨0, 0, 0⟩, prot := fun _ => 0 }

theorem inv0 {CR : Nat → Code → C → Prop} (W : World) : Inv CR (g0 W) s0 W where
  lenB := rfl
  lenT := rfl
  base := Nat.le_refl _
  fresh := fun _ _ => rfl
  lt := fun id h => absurd h (Nat.not_lt_zero _)
  box := fun id B h => by simp [St.box?, s0] at h
  pr := fun id B h => by simp [St.box?, s0] at h
  inj := fun i j A B h => by simp [St.box?, s0] at h
  tlt := fun k t h => by simp [St.tok?, s0] at h
  tall := fun k h => absurd h (Nat.not_lt_zero _)
  tok := fun k t h => by simp [St.tok?, s0] at h
  tinj := fun i j t u h => by simp [St.tok?, s0] at h
  btk := fun i B k t h => by simp [St.box?, s0] at h

/-- Below the old heap nothing has turned. -/
def Kept (W W' : World) : Prop := W'.os = W.os ∧ W'.output = W.output ∧ W.heap.size ≤ W'.heap.size ∧ ∀ k, k < W.heap.size → W'.heap[k]? = W.heap[k]?

theorem law_calls (hN : NamesOk P) (hX : Ctx P gt prog) {f n : Nat} {args : List AV} {s' : St} {W : World} {vs : Array Value} (hG : GT gt (g0 W) W) (hv : VL (g0 W) s0 W args vs.toList) (h : (run prog n).call f args s0 = some (.b true, s')) :
    Calls P f vs W fun e W' => e = .returned (.bool true) ∧ Kept W W' := by
  have := (run_ok hN hX n).call f args s0 _ s' h (g0 W) W vs.toList (inv0 W) hG hv
  rw [Array.toArray_toList] at this
  refine this.mono ?_
  rintro e W' ⟨v, rfl, g', hI, hL, hV, hE⟩
  simp only [V] at hV
  subst hV
  exact ⟨rfl, hL.io.1, hL.io.2, hL.size, hL.low⟩

/-- FRAME. -/
theorem Kept.frame {W W' : World} (h : Kept W W') (may : MemPlace → Prop) : W.keptBut W' may := by
  refine ⟨h.1, h.2.1, fun i hi => ?_⟩
  rw [h.2.2.2 i hi]
  split <;> simp_all

theorem Kept.same {W W' : World} (h : Kept W W') {p : MemPlace} (hp : p.block < W.heap.size) : W.sameAt W' p := by
  cases p with
  | cell b o => exact World.cell?_of_block (w := W) (h.2.2.2 b hp)
  | map b => exact h.2.2.2 b hp

theorem Kept.trod {H : Type} {enc : TypeId × Value → H} {t : TypeId} (hl : laidOutB P = true) (hr : P.readableRec t = true) (hrow : t < P.types.size) {W W' : World} {v : Value} {d : DataW H} {ps : List MemPlace}
    (h : DataW.Trod enc P W 0 (fun _ => true) true t v d ps) (hb : Kept W W') (hlt : ∀ x ∈ ps, x.block < W.heap.size) :
    DataW.Trod enc P W' 0 (fun b => decide (b < W.heap.size)) true t v d ps :=
  WideElems.Trod_stays hl hr hrow h (fun x hx => hb.same (hlt x hx)) (fun x hx => by simpa using hlt x hx)

/-- Every parameter's type can be read, and is a row of the table. -/
def rowed (P : Program) (ts : List TypeId) : Bool := ts.all fun t => P.readableRec t && decide (t < P.types.size)

theorem Kept.trodAll {H : Type} {enc : TypeId × Value → H} (hl : laidOutB P = true) {W W' : World} (hb : Kept W W') : ∀ {ts : List TypeId} {vs : List Value} {ds : List (DataW H)} {ps : List MemPlace}, rowed P ts = true →
    DataW.TrodAll enc P W 0 (fun _ => true) true ts vs ds ps → (∀ x ∈ ps, x.block < W.heap.size) → DataW.TrodAll enc P W' 0 (fun b => decide (b < W.heap.size)) true ts vs ds ps
  | [], [], [], ps, _, h, _ => h
  | [], [], _ :: _, _, _, h, _ => h.elim
  | [], _ :: _, _, _, _, h, _ => h.elim
  | _ :: _, [], _, _, _, h, _ => h.elim
  | _ :: _, _ :: _, [], _, _, h, _ => h.elim
  | t :: ts, v :: vs, d :: ds, ps, hr, h, hlt => by
    obtain ⟨p, q, h1, h2, rfl⟩ := h
    simp only [rowed, List.all_cons, Bool.and_eq_true, decide_eq_true_eq] at hr
    exact ⟨p, q, Kept.trod hl hr.1.1 hr.1.2 h1 hb fun x hx => hlt x (by simp [hx]), Kept.trodAll hl hb (by simpa [rowed] using hr.2) h2 fun x hx => hlt x (by simp [hx]), rfl⟩

theorem law_post {H : Type} {enc : TypeId × Value → H} {f : Func} {s : ChangeSpec} {W W' : World} {args : Array Value} {ds gs : List (DataW H)} {before : List MemPlace} {bt : TypeId} (hl : laidOutB P = true) (hr : rowed P f.params.toList = true)
    (hs : s.vars = []) (hrt : f.resultTypes = #[bt]) (hbt : P.underlying bt = some .bool)
    (hW : DataW.Whole enc P f.params.toList s.vars false W args.toList ds gs before) (hfn : s.fn H (ds ++ gs) = { results := [.lit (.bool true)], args := ds }) (hk : Kept W W') :
    s.post enc P f false true false false W args (.bool true) W' := by
  have hlt := hW.lt
  have hW0 := hW
  obtain ⟨p, q, hA, hV, rfl, hfz, hnd⟩ := hW
  rw [hs] at hV
  refine ⟨ds, gs, p ++ q, [], p, [], hW0, ?_, ?_, ?_, hk.frame _, fun h => by cases h⟩
  · rw [hfn, hrt]
    refine ⟨[], [], ⟨1, ?_⟩, rfl, rfl⟩
    simp [DataW.trod, hbt, Value.cells]
  · rw [hfn]
    exact Kept.trodAll hl hk hr hA fun x hx => by simpa using hlt x (by simp [hx])
  · rw [hfn, hs]; rfl
end
end Go.Proofs.YtfaodjpibdhdjaaDoor.Am
