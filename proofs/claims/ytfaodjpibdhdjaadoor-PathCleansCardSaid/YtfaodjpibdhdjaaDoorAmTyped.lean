/-
  Arguments of any type without pointers, maps, functions and interfaces, as values of the abstract machine.
-/
import Derived.Test.YtfaodjpibdhdjaaDoorAmRead
import Derived.ChangeArms
import Derived.Lib.LaidTab
set_option linter.all false
set_option linter.unusedVariables false
set_option linter.unusedSimpArgs false
set_option linter.unusedSectionVars false
set_option linter.constructorNameAsVariable false
namespace Go.Proofs.YtfaodjpibdhdjaaDoor.Am
open Go.ChangeShapes Go.WideShapes

/-- A value of a type, by its cells. -/
def mkV (P : Program) (t : Nat) (l : List AV) : AV := match P.underlying t with
  | some (.struct _) => .agg l
  | _ => l.headD undef

mutual
inductive Typed (P : Program) : Nat → List AV → Prop
  | bool {t : Nat} {x : Bool} : P.underlying t = some .bool → Typed P t [.b x]
  | int {t : Nat} {k : IntKind} {n : Int} : P.underlying t = some (.int k) → (Lit.int k n).wf = true → Typed P t [.i k n]
  | str {t : Nat} {l : List Nat} : P.underlying t = some .string → Txt l → Typed P t [.s l]
  | slice {t e : Nat} {ls : List (List AV)} : P.underlying t = some (.slice e) → ls.length < 2 ^ 63 → (∀ l ∈ ls, Typed P e l) → Typed P t [.ws false (P.cellsOf e) (ls.map (mkV P e))]
  | struct {t : Nat} {fs : Array Field} {l : List AV} : P.underlying t = some (.struct fs) → TypedF P fs.toList l → Typed P t l
inductive TypedF (P : Program) : List Field → List AV → Prop
  | nil : TypedF P [] []
  | cons {f : Field} {r : List Field} {a b : List AV} : Typed P f.type a → TypedF P r b → TypedF P (f :: r) (a ++ b)
end

def tileB (P : Program) (tot : Nat) : Nat → List Field → Bool
  | off, [] => Nat.beq off tot
  | off, f :: r => Nat.beq f.offset off && tileB P tot (off + P.cellsOf f.type) r
def readTy (P : Program) (ts : List Nat) (t : Nat) : Bool := match P.underlying t with
  | some .bool => true
  | some (.int _) => true
  | some .string => true
  | some (.slice e) => ts.contains e && Nat.ble 1 (P.cellsOf e)
  | some (.struct fs) => tileB P (P.cellsOf t) 0 fs.toList && fs.toList.all fun f => ts.contains f.type
  | _ => false
/-- A closed row of types that can be read so. -/
def readAll (P : Program) (ts : List Nat) : Bool := ts.all (readTy P ts)

section
variable {P : Program} {W : World} {H : Type} {enc : TypeId × Value → H}

/-- What is read of some cells. -/
def Reads (P : Program) (W : World) (t : Nat) (cs : List Value) : Prop := ∃ l, VL (g0 W) s0 W l cs ∧ Typed P t l ∧ ones l = true

theorem ones_append : ∀ {a b : List AV}, ones a = true → ones b = true → ones (a ++ b) = true
  | [], _, _, h => h
  | x :: a, b, h, k => by
    cases x <;> first | (simp [ones] at h; done) | exact ones_append (a := a) (by simpa only [ones] using h) k

theorem typed_one {t : Nat} {l : List AV} (h : Typed P t l) : (∃ fs, P.underlying t = some (.struct fs)) ∨ ((∀ fs, P.underlying t ≠ some (.struct fs)) ∧ ∃ a, l = [a] ∧ a.cells = [a]) := by
  cases h with
  | bool h => exact .inr ⟨(fun fs hh => by rw [h] at hh; cases hh), _, rfl, rfl⟩
  | int h => exact .inr ⟨(fun fs hh => by rw [h] at hh; cases hh), _, rfl, rfl⟩
  | str h => exact .inr ⟨(fun fs hh => by rw [h] at hh; cases hh), _, rfl, rfl⟩
  | slice h => exact .inr ⟨(fun fs hh => by rw [h] at hh; cases hh), _, rfl, rfl⟩
  | struct h => exact .inl ⟨_, h⟩

theorem mkV_struct {t : Nat} {fs : Array Field} (h : P.underlying t = some (.struct fs)) (l : List AV) : mkV P t l = .agg l := by unfold mkV; rw [h]
theorem mkV_one {t : Nat} (h : ∀ fs, P.underlying t ≠ some (.struct fs)) (a : AV) : mkV P t [a] = a := by
  unfold mkV
  split
  · rename_i fs hh; exact absurd hh (h fs)
  · rfl
theorem mkV_cells {t : Nat} {l : List AV} (h : Typed P t l) : (mkV P t l).cells = l := by
  rcases typed_one h with ⟨fs, hf⟩ | ⟨hn, a, rfl, hc⟩
  · rw [mkV_struct hf]; rfl
  · rw [mkV_one hn]; exact hc

/-- The element that stands in some cells. -/
theorem mkV_ok {g : G} {s : St} {w : World} {t : Nat} {l : List AV} {cs : List Value} (h : Typed P t l) (hV : VL g s w l cs) (h1 : ones l = true) : ∃ v : Value, V g s w (mkV P t l) v ∧ v.cells.toList = cs := by
  rcases typed_one h with ⟨fs, hf⟩ | ⟨hn, a, rfl, hc⟩
  · rw [mkV_struct hf]
    exact ⟨.agg cs.toArray, by simp only [V]; exact ⟨cs, hV, rfl⟩, by simp [Value.cells]⟩
  · rw [mkV_one hn]
    have hV' := hV
    simp only [VL] at hV
    obtain ⟨v, r, rfl, hv, rfl⟩ := hV
    have h2 := V_cells hv
    rw [hc] at h2
    simp only [VL] at h2
    obtain ⟨u, r2, h3, h4, rfl⟩ := h2
    have hone := ones_of_VL h1 hV' v (by simp)
    have : v.cells.toList = [v] := by
      cases v <;> first | rfl | (simp [Value.oneCell'] at hone; done)
    exact ⟨v, hv, this⟩

theorem cells?_get {a : Addr} {n : Nat} {cs : List Value} (h : W.cells? 0 a n = some cs) : cs.length = n ∧ ∀ i v, cs[i]? = some v → W.cell? (a.add i) = some v := by
  unfold World.cells? at h
  rw [if_pos (Nat.zero_le _)] at h
  have hl : cs.length = n := by simpa using Lib.mapM_length h
  refine ⟨hl, fun i v hi => ?_⟩
  have hlt : i < n := by have := (List.getElem?_eq_some_iff.1 hi).1; omega
  obtain ⟨b, hb, hf⟩ := Lib.mapM_at h i i (by simp [hlt])
  rw [hi] at hb; cases hb
  exact hf

theorem fields_read {ts : List Nat} {tot : Nat} {cs : List Value} (hcs : cs.length = tot) : ∀ (fl : List Field) (off : Nat), tileB P tot off fl = true →
    (∀ f ∈ fl, Reads P W f.type ((cs.drop f.offset).take (P.cellsOf f.type))) → ∃ l, VL (g0 W) s0 W l (cs.drop off) ∧ TypedF P fl l ∧ ones l = true
  | [], off, h, _ => by
    have := Nat.eq_of_beq_eq_true h
    subst this
    refine ⟨[], ?_, .nil, rfl⟩
    simp only [VL]
    exact List.drop_of_length_le (by omega)
  | f :: r, off, h, hr => by
    simp only [tileB, Bool.and_eq_true] at h
    obtain ⟨h1, h2⟩ := h
    have h1 := Nat.eq_of_beq_eq_true h1
    obtain ⟨a, a1, a2, a3⟩ := hr f (by simp)
    obtain ⟨b, b1, b2, b3⟩ := fields_read (ts := ts) hcs r _ h2 fun f' hf' => hr f' (by simp [hf'])
    rw [h1] at a1
    refine ⟨a ++ b, ?_, .cons a2 b2, ones_append a3 b3⟩
    have := VL_append a1 b1
    rwa [← List.drop_drop, List.take_append_drop] at this

theorem addr_add_add (a : Addr) (n m : Nat) : (a.add n).add m = a.add (n + m) := by
  unfold Addr.add
  by_cases hn : n = 0
  · subst hn; simp
  · by_cases hm : m = 0
    · subst hm; simp [hn]
    · simp [hn, hm, Nat.add_assoc]

theorem elems_read {e : Nat} {a : Addr} (hes : 1 ≤ P.cellsOf e) : ∀ len : Nat, (∀ i, i < len → ∃ cs, W.cells? 0 (a.add (i * P.cellsOf e)) (P.cellsOf e) = some cs ∧ Reads P W e cs) →
    ∃ (ls : List (List AV)) (vs : List Value), ls.length = len ∧ (∀ l ∈ ls, Typed P e l) ∧ VL (g0 W) s0 W (ls.map (mkV P e)) vs ∧ allLen (P.cellsOf e) (ls.map (mkV P e)) = true ∧
      (flat vs).length = len * P.cellsOf e ∧ ∀ j v, (flat vs)[j]? = some v → W.cell? (a.add j) = some v
  | 0, _ => ⟨[], [], rfl, by simp, by simp [VL], rfl, by simp [flat], by simp [flat]⟩
  | len + 1, h => by
    obtain ⟨ls, vs, h1, h2, h3, h4, h5, h6⟩ := elems_read hes len fun i hi => h i (by omega)
    obtain ⟨cs, c1, l, l1, l2, l3⟩ := h len (by omega)
    obtain ⟨k1, k2⟩ := cells?_get c1
    obtain ⟨v, v1, v2⟩ := mkV_ok l2 l1 l3
    have hll : l.length = P.cellsOf e := by have := l1.length; omega
    refine ⟨ls ++ [l], vs ++ [v], by simp [h1], ?_, ?_, ?_, ?_, ?_⟩
    · intro x hx
      rcases List.mem_append.1 hx with hx | hx
      · exact h2 x hx
      · simp only [List.mem_singleton] at hx; subst hx; exact l2
    · rw [List.map_append]
      exact VL_append h3 (by simp only [List.map_cons, List.map_nil, VL]; exact ⟨v, [], rfl, v1, rfl⟩)
    · rw [List.map_append]
      refine allLen_append h4 ?_
      simp only [List.map_cons, List.map_nil, allLen, Bool.and_true, Bool.and_eq_true, mkV_cells l2]
      exact ⟨by rw [hll]; exact Nat.beq_refl _, l3⟩
    · rw [flat_append, List.length_append, h5]
      simp only [flat, List.flatMap_cons, List.flatMap_nil, List.append_nil, v2, k1]
      rw [Nat.add_mul]; omega
    · intro j u hj
      rw [flat_append] at hj
      by_cases hlt : j < (flat vs).length
      · rw [List.getElem?_append_left hlt] at hj
        exact h6 j u hj
      · rw [List.getElem?_append_right (by omega)] at hj
        simp only [flat, List.flatMap_cons, List.flatMap_nil, List.append_nil, v2] at hj
        have h7 : (List.flatMap (fun v : Value => v.cells.toList) vs).length = len * P.cellsOf e := h5
        rw [h7] at hj
        have h8 : len * P.cellsOf e ≤ j := by omega
        have := k2 _ u hj
        rw [addr_add_add, show len * P.cellsOf e + (j - len * P.cellsOf e) = j by omega] at this
        exact this

theorem trod_reads {ts : List Nat} (hts : readAll P ts = true) : ∀ (fuel : Nat) (t : Nat) (cs : List Value) (x : DataW H × List MemPlace), ts.contains t = true → DataW.trod enc P W 0 (fun _ => true) true fuel t cs = some x → Reads P W t cs
  | 0, t, cs, x, _, h => by simp [DataW.trod] at h
  | fuel + 1, t, cs, x, ht, h => by
    have hrd : readTy P ts t = true := List.all_eq_true.1 hts t (by simpa using ht)
    unfold readTy at hrd
    split at hrd
    · rename_i hu
      obtain ⟨b, rfl, _⟩ := DataW.trod_bool hu h
      exact ⟨[.b b], by simp only [VL]; exact ⟨_, _, rfl, by simp only [V], rfl⟩, .bool hu, rfl⟩
    · rename_i k hu
      obtain ⟨n, rfl, _, hw⟩ := DataW.trod_int hu h
      exact ⟨[.i k n], by simp only [VL]; exact ⟨_, _, rfl, by simp only [V], rfl⟩, .int hu hw, rfl⟩
    · rename_i hu
      obtain ⟨s, rfl, _, hw⟩ := DataW.trod_string hu h
      exact ⟨[.s (lsOf s)], by simp only [VL]; exact ⟨_, _, rfl, V_str _ _ _ s, rfl⟩, .str hu (txt_of hw), rfl⟩
    · rename_i e hu
      simp only [Bool.and_eq_true] at hrd
      have hes : 1 ≤ P.cellsOf e := by simpa using hrd.2
      rcases DataW.trod_slice hu h with ⟨rfl, _⟩ | ⟨a, len, cap, els, rest, n, hf, rfl, _, _, hlc, hcm, hel, he, hr, _⟩
      · exact ⟨[.ws false (P.cellsOf e) []], by simp only [VL]; exact ⟨_, _, rfl, V_wsnil (by simp only [V]), rfl⟩, Typed.slice (ls := []) hu (by simp) (by simp), rfl⟩
      · obtain rfl : n = fuel := by omega
        have hread : ∀ i, i < len → ∃ cs, W.cells? 0 (a.add (i * P.cellsOf e)) (P.cellsOf e) = some cs ∧ Reads P W e cs := by
          intro i hi
          have := he i hi
          have hsome : els[i]? = some els[i] := List.getElem?_eq_getElem (by omega)
          rw [hsome, Option.bind_eq_some_iff] at this
          obtain ⟨cs, c1, c2⟩ := this
          exact ⟨cs, c1, trod_reads hts n e cs _ hrd.1 c2⟩
        obtain ⟨ls, vs, h1, h2, h3, h4, h5, h6⟩ := elems_read hes len hread
        have hlen63 : len < 2 ^ 63 := by simp only [maxLen] at hcm; omega
        refine ⟨[.ws false (P.cellsOf e) (ls.map (mkV P e))], ?_, Typed.slice hu (by omega) h2, rfl⟩
        simp only [VL]
        refine ⟨_, _, rfl, ?_, rfl⟩
        by_cases hc0 : cap = 0
        · obtain rfl : len = 0 := by omega
          have : ls = [] := List.length_eq_zero_iff.1 h1
          subst this
          subst hc0
          exact V_wswz (by simp only [V]; exact ⟨a, rfl⟩)
        · -- there is a first place
          have hfirst : ∃ cs, W.cells? 0 a (P.cellsOf e) = some cs := by
            by_cases hl0 : 0 < len
            · obtain ⟨cs, c1, _⟩ := hread 0 hl0
              rw [Nat.zero_mul] at c1
              exact ⟨cs, by simpa [Addr.add] using c1⟩
            · obtain ⟨hr1, hr2⟩ := hr rfl
              have := hr2 0 (by omega)
              have hsome : rest[0]? = some rest[0] := List.getElem?_eq_getElem (by omega)
              rw [hsome, Option.bind_eq_some_iff] at this
              obtain ⟨cs, c1, _⟩ := this
              have hl00 : len = 0 := by omega
              subst hl00
              rw [Nat.add_zero, Nat.zero_mul] at c1
              exact ⟨cs, by simpa [Addr.add] using c1⟩
          obtain ⟨cs, c1⟩ := hfirst
          obtain ⟨k1, k2⟩ := cells?_get c1
          have hcell : W.cell? a = some cs[0] := by
            have := k2 0 cs[0] (List.getElem?_eq_getElem (by omega))
            simpa [Addr.add] using this
          obtain ⟨b, o, sp⟩ := a
          have hb : b < W.heap.size ∧ sp = none := by
            simp only [World.cell?] at hcell
            split at hcell
            · rename_i hh
              refine ⟨(Array.getElem?_eq_some_iff.1 hh).1, ?_⟩
              cases sp with
              | none => rfl
              | some _ => simp at hcell
            · cases hcell
          obtain ⟨hb, rfl⟩ := hb
          rw [V_ws]
          right; right
          simp only [V]
          refine ⟨b, o, cap, vs, by simp [h1], ⟨hes, by simp [h1]; omega⟩, h4, capM_ok.2, fun _ => ⟨h3, ?_, .inl hb, by simp only [capM, CapIs]; simp [h1]; omega⟩⟩
          intro j v hj
          have := h6 j v hj
          simp only [Addr.add] at this
          by_cases hj0 : j = 0
          · subst hj0; simpa using this
          · rw [if_neg hj0] at this; exact this
    · rename_i fs hu
      simp only [Bool.and_eq_true] at hrd
      obtain ⟨xs, n, hf, _, hlen, hxl, hx⟩ := DataW.trod_struct hu h
      obtain rfl : n = fuel := by omega
      obtain ⟨l, l1, l2, l3⟩ := fields_read (P := P) (W := W) (ts := ts) hlen fs.toList 0 hrd.1 (fun f hfm => by
        obtain ⟨i, hi, hfi⟩ := List.mem_iff_getElem.1 hfm
        have hi' : i < fs.size := by simpa using hi
        have hget : fs[i]? = some f := by rw [Array.getElem?_eq_getElem hi']; congr 1
        have := hx i f hget
        have hsome : xs[i]? = some xs[i] := List.getElem?_eq_getElem (by omega)
        rw [hsome] at this
        exact trod_reads hts n f.type _ _ (List.all_eq_true.1 hrd.2 f hfm) this)
      rw [List.drop_zero] at l1
      exact ⟨l, l1, .struct hu l2, l3⟩
    · cases hrd

/-- An argument. -/
theorem read_arg {ts : List Nat} (hts : readAll P ts = true) {t : TypeId} {v : Value} {d : DataW H} {ps : List MemPlace} {base : Nat} (ht : ts.contains t = true) (hv : Value.okWide P W .any base t v)
    (h : DataW.Trod enc P W 0 (fun _ => true) true t v d ps) : ∃ l, V (g0 W) s0 W (mkV P t l) v ∧ Typed P t l := by
  obtain ⟨fuel, hf⟩ := h
  obtain ⟨l, h1, h2, h3⟩ := trod_reads hts fuel t _ _ ht hf
  refine ⟨l, ?_, h2⟩
  rcases typed_one h2 with ⟨fs, hu⟩ | ⟨hn, a, rfl, hc⟩
  · rw [mkV_struct hu]
    simp only [Value.okWide, hu] at hv
    obtain ⟨cs, rfl, _⟩ := hv
    simp only [V]
    exact ⟨cs.toList, by simpa [Value.cells] using h1, rfl⟩
  · rw [mkV_one hn]
    simp only [VL] at h1
    obtain ⟨u, r, hcs, hu, rfl⟩ := h1
    have hna : ∀ cs, v ≠ .agg cs := by
      rintro cs rfl
      have hrd : readTy P ts t = true := List.all_eq_true.1 hts t (by simpa using ht)
      unfold readTy at hrd
      split at hrd
      · rename_i h0; simp [Value.okWide, Cell.okWide, Cell.ok, h0] at hv
      · rename_i h0; simp [Value.okWide, Cell.okWide, Cell.ok, h0] at hv
      · rename_i h0; simp [Value.okWide, Cell.okWide, Cell.ok, h0] at hv
      · rename_i h0; simp [Value.okWide, Cell.okWide, Cell.ok, h0] at hv
      · rename_i fs h0; exact hn fs h0
      · cases hrd
    have : v.cells.toList = [v] := by
      cases v <;> first | rfl | (exact absurd rfl (hna _))
    rw [this] at hcs
    cases hcs
    exact hu
end

section inv
variable {P : Program} {t e : Nat} {l : List AV}
theorem typed_bool (hu : P.underlying t = some .bool) (h : Typed P t l) : ∃ b, l = [.b b] := by
  cases h with
  | bool h => exact ⟨_, rfl⟩
  | int h => rw [hu] at h; cases h
  | str h => rw [hu] at h; cases h
  | slice h => rw [hu] at h; cases h
  | struct h => rw [hu] at h; cases h
theorem typed_int {k : IntKind} (hu : P.underlying t = some (.int k)) (h : Typed P t l) : ∃ n, l = [.i k n] ∧ (Lit.int k n).wf = true := by
  cases h with
  | bool h => rw [hu] at h; cases h
  | int h hw => rw [hu] at h; cases h; exact ⟨_, rfl, hw⟩
  | str h => rw [hu] at h; cases h
  | slice h => rw [hu] at h; cases h
  | struct h => rw [hu] at h; cases h
theorem typed_str (hu : P.underlying t = some .string) (h : Typed P t l) : ∃ x, l = [.s x] ∧ Txt x := by
  cases h with
  | bool h => rw [hu] at h; cases h
  | int h => rw [hu] at h; cases h
  | str h ht => exact ⟨_, rfl, ht⟩
  | slice h => rw [hu] at h; cases h
  | struct h => rw [hu] at h; cases h
theorem typed_slice (hu : P.underlying t = some (.slice e)) (h : Typed P t l) : ∃ ls : List (List AV), l = [.ws false (P.cellsOf e) (ls.map (mkV P e))] ∧ ls.length < 2 ^ 63 ∧ ∀ l ∈ ls, Typed P e l := by
  cases h with
  | bool h => rw [hu] at h; cases h
  | int h => rw [hu] at h; cases h
  | str h => rw [hu] at h; cases h
  | slice h h1 h2 => rw [hu] at h; cases h; exact ⟨_, rfl, h1, h2⟩
  | struct h => rw [hu] at h; cases h
theorem typed_struct {fs : Array Field} (hu : P.underlying t = some (.struct fs)) (h : Typed P t l) : TypedF P fs.toList l := by
  cases h with
  | bool h => rw [hu] at h; cases h
  | int h => rw [hu] at h; cases h
  | str h => rw [hu] at h; cases h
  | slice h => rw [hu] at h; cases h
  | struct h h1 => rw [hu] at h; cases h; exact h1
theorem typedF_cons {f : Field} {r : List Field} (h : TypedF P (f :: r) l) : ∃ a b, l = a ++ b ∧ Typed P f.type a ∧ TypedF P r b := by
  cases h with
  | cons h1 h2 => exact ⟨_, _, rfl, h1, h2⟩
theorem typedF_nil (h : TypedF P [] l) : l = [] := by cases h; rfl

/-- Elements that are all of one kind. -/
theorem typed_map {α : Type} {f : α → AV} {Q : α → Prop} (h : ∀ l, Typed P e l → ∃ a, mkV P e l = f a ∧ Q a) : ∀ ls : List (List AV), (∀ l ∈ ls, Typed P e l) → ∃ L : List α, ls.map (mkV P e) = L.map f ∧ L.length = ls.length ∧ ∀ a ∈ L, Q a
  | [], _ => ⟨[], rfl, rfl, by simp⟩
  | x :: ls, hl => by
    obtain ⟨a, h1, h2⟩ := h x (hl x (by simp))
    obtain ⟨L, k1, k2, k3⟩ := typed_map h ls fun l hm => hl l (by simp [hm])
    refine ⟨a :: L, by simp [h1, k1], by simp [k2], fun b hb => ?_⟩
    rcases List.mem_cons.1 hb with rfl | hb
    · exact h2
    · exact k3 b hb
theorem typed_strs (hu : P.underlying t = some (.slice e)) (he : P.underlying e = some .string) (hc : P.cellsOf e = 1) (h : Typed P t l) : ∃ L : List (List Nat), l = [.ws false 1 (L.map .s)] ∧ L.length < 2 ^ 63 ∧ ∀ x ∈ L, Txt x := by
  obtain ⟨ls, rfl, h1, h2⟩ := typed_slice hu h
  obtain ⟨L, k1, k2, k3⟩ := typed_map (f := AV.s) (Q := Txt) (fun l h => by
    obtain ⟨x, rfl, hx⟩ := typed_str he h
    exact ⟨x, mkV_one (fun fs hh => by rw [he] at hh; cases hh) _, hx⟩) ls h2
  exact ⟨L, by rw [k1, hc], by omega, k3⟩
end inv
end Go.Proofs.YtfaodjpibdhdjaaDoor.Am
