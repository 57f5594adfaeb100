/-
  Slices: a literal, growing, cutting.
-/
import Derived.Test.YtfaodjpibdhdjaaDoorAmOps2
set_option linter.all false
set_option linter.unusedVariables false
set_option linter.unusedSimpArgs false
set_option linter.unusedSectionVars false
set_option linter.constructorNameAsVariable false
namespace Go.Proofs.YtfaodjpibdhdjaaDoor.Am
variable {CR : Nat → Code → C → Prop} {P : Program} {g : G} {s s' : St} {w : World}

/-! ### The elements of a literal -/
theorem flat_cons (v : Value) (vs : List Value) : flat (v :: vs) = v.cells.toList ++ flat vs := by simp [flat]

theorem mid_lists {A B D : List Value} {a b : Nat} (hA : A.length = a) (hB : B.length = b) (k : Nat) : (A ++ (B ++ D)).take (a + b) = A ++ B ∧ (A ++ (B ++ D)).drop (a + b + k) = D.drop k := by
  have h : (A ++ B).length = a + b := by simp [hA, hB]
  rw [← List.append_assoc]
  refine ⟨List.take_left' h, ?_⟩
  rw [← List.drop_drop, List.drop_left' h]

theorem fill_elems {es : Nat} (he : 1 ≤ es) : ∀ (parts : List (Nat × Value)) (n : Nat) (xs : List AV) (cells : Array Value), (∀ i p, parts[i]? = some p → p.1 = n + i) → VL g s w xs (parts.map (·.2)) → allLen es xs = true →
    (n + parts.length) * es ≤ cells.size →
    ∃ cells', Instr.fill (fun i => some (i * es, es)) cells parts = some cells' ∧ cells'.toList = cells.toList.take (n * es) ++ (flat (parts.map (·.2)) ++ cells.toList.drop ((n + parts.length) * es))
  | [], n, xs, cells, _, _, _, hs => ⟨cells, rfl, by simp [flat]⟩
  | (i, v) :: parts, n, xs, cells, hi, hV, ha, hs => by
    have h0 : i = n := hi 0 (i, v) rfl
    subst h0
    match xs, hV with
    | x :: xs, hV =>
      simp only [List.map_cons, VL] at hV
      obtain ⟨v', r, he', h1, h2⟩ := hV
      simp only [List.cons.injEq] at he'
      obtain ⟨rfl, rfl⟩ := he'
      simp only [allLen, Bool.and_eq_true] at ha
      have hx := Nat.eq_of_beq_eq_true ha.1.1
      have hsz := V_size h1
      simp only [List.length_cons] at hs
      have hmul : (i + (parts.length + 1)) * es = i * es + es + parts.length * es := by rw [Nat.add_mul, Nat.add_mul]; omega
      have hsize : i * es + v.cells.size ≤ cells.size := by omega
      have hf := fold_over v cells (i * es) hsize
      have hfs : (v.cells.zipIdx.foldl (fun cs x => cs.setIfInBounds (i * es + x.2) x.1) cells).size = cells.size := by
        have := congrArg List.length hf
        simp only [List.length_append, List.length_take, List.length_drop, Array.length_toList] at this
        omega
      have hmul2 : (i + 1 + parts.length) * es = i * es + es + parts.length * es := by rw [Nat.add_mul, Nat.add_mul]; omega
      obtain ⟨cells', e1, e2⟩ := fill_elems he parts (i + 1) xs (v.cells.zipIdx.foldl (fun cs x => cs.setIfInBounds (i * es + x.2) x.1) cells)
        (fun j p hj => by have := hi (j + 1) p (by simpa using hj); omega) h2 ha.2 (by omega)
      refine ⟨cells', ?_, ?_⟩
      · simp only [Instr.fill]
        rw [if_neg (by simp only [Bool.or_eq_true, bne_iff_ne, ne_eq, decide_eq_true_eq]; omega)]
        exact e1
      · rw [e2, hf]
        have hm1 : (i + 1) * es = i * es + es := by rw [Nat.add_mul]; omega
        have hl1 : (cells.toList.take (i * es)).length = i * es := by rw [List.length_take, Array.length_toList]; omega
        have hl2 : v.cells.toList.length = es := by rw [Array.length_toList]; omega
        obtain ⟨h3, h4⟩ := mid_lists (D := cells.toList.drop (i * es + v.cells.toList.length)) hl1 hl2 (parts.length * es)
        simp only [List.map_cons, flat_cons, List.length_cons]
        rw [hm1, h3, hmul2, h4, List.drop_drop, hl2, hmul]
        simp only [List.append_assoc]

theorem cvElems_idx {gt : Nat → Option (List AV)} : ∀ {parts : List (Nat × Operand)} {n : Nat} {xs : List X}, cvElems gt n parts = some xs → xs.length = parts.length ∧ ∀ i p, parts[i]? = some p → p.1 = n + i
  | [], n, xs, h => by simp only [cvElems] at h; cases h; simp
  | (i, x) :: parts, n, xs, h => by
    simp only [cvElems] at h
    split at h
    · rename_i a r h1 h2
      split at h
      · rename_i h3
        cases h
        obtain ⟨h4, h5⟩ := cvElems_idx h2
        refine ⟨by simp [h4], fun j p hj => ?_⟩
        cases j with
        | zero => simp at hj; subst hj; exact h3
        | succ j => have := h5 j p (by simpa using hj); omega
      · cases h
    · cases h

theorem cvElems_ok {gt : Nat → Option (List AV)} (hG : GT gt g w) {e : Tr} {a : Act} (hT : VT g s w e a.tmps) : ∀ {parts : List (Nat × Operand)} {n : Nat} {xs : List X}, cvElems gt n parts = some xs →
    VL g s w (evX e xs) (parts.map fun x => a.eval x.2)
  | [], n, xs, h => by simp only [cvElems] at h; cases h; simp [evX, VL]
  | (i, x) :: parts, n, xs, h => by
    simp only [cvElems] at h
    split at h
    · rename_i b r h1 h2
      split at h
      · cases h
        simp only [evX, VL, List.map_cons]
        exact ⟨_, _, rfl, cvX_ok hG hT h1, cvElems_ok hG hT h2⟩
      · cases h
    · cases h

theorem newRow_good (hI : Inv CR g s w) {es : Nat} {xs : List AV} {vs : List Value} (he : 1 ≤ es) (ha : allLen es xs = true) (hV : VL g s w xs vs) {arr : Array Value} (T : Nat) (harr : arr.toList = flat vs) :
    Good CR g s w s (.sl es xs .full) (.slice (some ⟨w.heap.size, 0, none⟩) xs.length xs.length) (w.alloc (.cells arr T)) := by
  have hL := Le.newRow hI arr.size (.cells arr T)
  refine ⟨_, Inv.newRow hI arr.size (.cells arr T), hL, ?_, Esc.refl _⟩
  simp only [V]
  refine ⟨_, _, _, vs, rfl, ⟨he, Nat.le_refl _⟩, ha, trivial, fun _ => ⟨VL_mono hL _ _ hV, fun j v hj => ?_, ?_, rfl⟩⟩
  · simp only [World.cell?, heap_alloc_new]
    rw [← harr] at hj
    simpa using hj
  · right
    have := flat_length hV ha
    rw [← harr] at this
    simp [G.newRow]; simp at this; omega

theorem bsl_ok {gt : Nat → Option (List AV)} (hI : Inv CR g s w) (hG : GT gt g w) {e : Tr} {a : Act} (hT : VT g s w e a.tmps) {t el es len : Nat} {z : AV} {parts : Array (Nat × Operand)} {xs : List X}
    (hu : P.underlying t = some (.slice el)) (hn : sizeT P el = some es) (hz : zeroT P el = some z) (hx : cvElems gt 0 parts.toList = some xs) (hlen : xs.length = len) (hsz : len * es ≤ 2 ^ 24)
    {vs : List AV} (hp : pubL s (evX e xs) = some (vs, s')) (he : 1 ≤ es) (ha : allLen es vs = true) :
    ∃ v w', (Instr.buildSlice t len (parts.map fun (i, x) => (i, a.eval x))).run P w = .ok v w' ∧ Good CR g s w s' (.sl es vs .full) v w' := by
  obtain ⟨hxl, hidx⟩ := cvElems_idx hx
  have hV0 := cvElems_ok hG hT hx
  obtain ⟨g1, hI1, hL1, hV1, hE1⟩ := pubL_ok hI hV0 hp
  obtain ⟨zv, hz1, hz2⟩ := run_zeroValue (P := P) hz
  have hvl := hV1.length
  simp only [List.length_map] at hvl
  have key : ∀ zs : Array Value, zs.size = len * es → ∃ cells', Instr.fill (fun i => some (i * es, es)) zs ((parts.map fun (i, x) => (i, a.eval x)).toList) = some cells' ∧ cells'.toList = flat (parts.toList.map fun x => a.eval x.2) := by
    intro zs hzs
    have hpl : (parts.map fun (i, x) => (i, a.eval x)).toList = parts.toList.map fun x => (x.1, a.eval x.2) := by simp
    rw [hpl]
    obtain ⟨cells', e1, e2⟩ := fill_elems he (parts.toList.map fun x => (x.1, a.eval x.2)) 0 vs zs (fun i p hp => by
      simp only [List.getElem?_map, Option.map_eq_some_iff] at hp
      obtain ⟨q, hq, rfl⟩ := hp
      exact hidx i q hq) (by simpa [Function.comp_def] using hV1) ha (by simp; rw [hzs, ← hlen, hxl]; simp)
    refine ⟨cells', e1, ?_⟩
    rw [e2]
    simp only [Nat.zero_mul, List.take_zero, List.nil_append, List.length_map, Nat.zero_add, List.map_map]
    rw [List.drop_of_length_le (by simp; rw [hzs, ← hlen, hxl]; simp)]
    simp [Function.comp_def]
  have hvsl : vs.length = len := by rw [← hlen, hxl]; omega
  by_cases h0 : len * es = 0
  · obtain ⟨cells', e1, e2⟩ := key ((Array.range (len * es)).map (fun i => (#[] : Array Value)[i % (#[] : Array Value).size]!)) (by simp)
    obtain hgood := newRow_good hI1 he ha hV1 el (arr := cells') e2
    refine ⟨_, _, ?_, Good.from hL1 hE1 hgood⟩
    simp only [Instr.buildSlice, Sem.run_bind, run_underlying hu, Result.andThen_ok, run_sizeOf hn]
    rw [if_neg (by omega)]
    simp only [h0, if_true, Sem.run_bind, Sem.run_pure, Result.andThen_ok]
    rw [h0] at e1
    simp only [e1]
    simp [newRow, World.alloc_eq, hvsl]
  · obtain ⟨cells', e1, e2⟩ := key ((Array.range (len * es)).map (fun i => zv.cells[i % zv.cells.size]!)) (by simp)
    obtain hgood := newRow_good hI1 he ha hV1 el (arr := cells') e2
    refine ⟨_, _, ?_, Good.from hL1 hE1 hgood⟩
    simp only [Instr.buildSlice, Sem.run_bind, run_underlying hu, Result.andThen_ok, run_sizeOf hn]
    rw [if_neg (by omega)]
    simp only [h0, if_false, Sem.run_bind, Sem.run_pure, Result.andThen_ok, hz1, e1]
    simp [newRow, World.alloc_eq, hvsl]
end Go.Proofs.YtfaodjpibdhdjaaDoor.Am
