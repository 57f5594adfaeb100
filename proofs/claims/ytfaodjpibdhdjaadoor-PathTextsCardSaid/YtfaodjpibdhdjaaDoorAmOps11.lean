/-
  Elements copied, zero values put behind a slice, and whether two slices lie in one place.
-/
import Derived.Test.YtfaodjpibdhdjaaDoorAmOps10
import Derived.Test.YtfaodjpibdhdjaaDoorAmRow
import Derived.Test.YtfaodjpibdhdjaaDoorAmBeq
import Derived.Laws.Externs
set_option linter.all false
set_option linter.unusedVariables false
set_option linter.unusedSimpArgs false
set_option linter.unusedSectionVars false
set_option linter.constructorNameAsVariable false
namespace Go.Proofs.YtfaodjpibdhdjaaDoor.Am
variable {CR : Nat → Code → C → Prop} {P : Program} {g : G} {s s' : St} {w : World}

theorem run_copy {c : Array TypeId} {t e es : Nat} {ty : TypeId} (hc : c[0]? = some t) (hu : P.underlying t = some (.slice e)) (hn : sizeT P e = some es) {a : Addr} {n cap m k : Nat} {yv : Value} {cs : Array Value} {w' : World}
    (hl : (Builtin.lenOf yv).run P w = .ok m w) (hk : Nat.min m n = k) (hf : (Builtin.firstCells es k yv).run P w = .ok cs w) (hs : (storeCells a cs.toList).run P w = .ok () w') :
    (Builtin.copy_ c ty #[.slice (some a) n cap, yv]).run P w = .ok (goInt k) w' := by
  have e0 : (#[(.slice (some a) n cap : Value), yv] : Array Value)[0]? = some (.slice (some a) n cap) := rfl
  have e1 : (#[(.slice (some a) n cap : Value), yv] : Array Value)[1]? = some yv := rfl
  simp only [Builtin.copy_, hc, e0, e1, Sem.run_bind, run_underlying hu, Result.andThen_ok, hl, run_sizeOf hn, hk, hf, hs]
  rfl

theorem cp_ok (hI : Inv CR g s w) {c : Array TypeId} {t e es : Nat} {ty : TypeId} (hc : c[0]? = some t) (hu : P.underlying t = some (.slice e)) (hn : sizeT P e = some es) {x y r : AV} {xv yv : Value}
    (hx : V g s w x xv) (hy : V g s w y yv) (h : cpA s es x y = some (r, s')) : ∃ v w', (Builtin.copy_ c ty #[xv, yv]).run P w = .ok v w' ∧ Good CR g s w s' r v w' := by
  unfold cpA at h
  split at h <;> try (cases h; done)
  rename_i id e' off n q
  split at h <;> try (cases h; done)
  rename_i hes
  obtain ⟨rfl, hes⟩ := hes
  split at h <;> try (cases h; done)
  rename_i ys hel
  split at h <;> try (cases h; done)
  rename_i hlen
  split at h <;> try (cases h; done)
  rename_i s1 hs
  cases h
  -- what is read
  have key : ∃ us m, VL g s w ys us ∧ (Builtin.lenOf yv).run P w = .ok m w ∧ Nat.min m n = ys.length ∧ (Builtin.firstCells e' ys.length yv).run P w = .ok (flat us).toArray w := by
    by_cases hb : ∃ id2 e2 off2 m q2, y = .bl id2 e2 off2 m q2
    · obtain ⟨id2, e2, off2, m, q2, rfl⟩ := hb
      simp only [V] at hy
      obtain ⟨o2, cap2, rfl, h1, h2, h3, h4, h5⟩ := hy
      have hy' : V g s w (.bl id2 e2 off2 (min m n) q2) (.slice (some ⟨g.bx id2, o2, none⟩) (min m n) cap2) := by
        simp only [V]
        exact ⟨o2, cap2, rfl, h1, ⟨h2.1, by omega⟩, h3, h4, h5⟩
      obtain ⟨us, k1, k2, k3, k4, k5⟩ := elems_ok (P := P) hI hy' hel
      have hyl : ys.length = min m n := by
        have : (Builtin.lenOf (.slice (some (⟨g.bx id2, o2, none⟩ : Addr)) (min m n) cap2)).run P w = .ok (min m n) w := by simp [Builtin.lenOf]
        rw [this] at k3
        injection k3 with k3; exact k3.symm
      refine ⟨us, m, k1, by simp [Builtin.lenOf], by rw [hyl], ?_⟩
      simpa only [Builtin.firstCells] using k4
    · have htr : trimA n y = y := by
        cases y <;> first | rfl | (exact absurd ⟨_, _, _, _, _, rfl⟩ hb)
      rw [htr] at hel
      obtain ⟨us, k1, k2, k3, k4, k5⟩ := elems_ok (P := P) hI hy hel
      exact ⟨us, ys.length, k1, k3, Nat.min_eq_left hlen.1, k4⟩
  obtain ⟨us, m, k1, k2, k3, k4⟩ := key
  simp only [V] at hx
  obtain ⟨o, cap, rfl, hid, hz, _, ho, _⟩ := hx
  have hoff : o = off := ho (by omega)
  subst hoff
  have ha : V g s w (.p id o) (.pointer (some ⟨g.bx id, o, none⟩)) := by simp only [V]; exact ⟨hid, trivial⟩
  have hv : V g s w (.agg (flatC ys)) (.agg (flat us).toArray) := by simp only [V]; exact ⟨_, VL_flatC k1, rfl⟩
  obtain ⟨w', ⟨ad, h1, _, h3⟩, g1, i1, i2, _, i4⟩ := st_cells (P := P) hI ha hv hs
  simp only [Value.pointer.injEq, Option.some.injEq] at h1
  subst h1
  refine ⟨_, w', run_copy hc hu hn k2 k3 k4 ?_, g1, i1, i2, by simp [V, goInt], i4⟩
  exact h3

/-- What append of so many zero values comes to, where there is no room. -/
theorem run_append_zeros {c : Array TypeId} {t u e es : Nat} {kn : IntKind} {i : TypeInfo} {z : Value} {ty : TypeId} (hc0 : c[0]? = some t) (hc1 : c[1]? = some u) (ht : P.underlying t = some (.slice e)) (hu : P.underlying u = some (.int kn))
    (hi : P.info? e = some i) (hsz : i.size = es) (hb : i.bytes ≤ 256) (hes : 1 ≤ es) (hz : ∀ w, (zeroValue e).run P w = .ok z w) (hzs : z.cells.size = es) {base : Option Addr} {sLen sCap m : Nat} {kk : IntKind}
    (hlt : sCap < sLen + m) (hm : 1 ≤ m) (hsmall : (sLen + m) * es < 2 ^ 38) {old : Array Value} (hold : ∀ dr, (Builtin.firstCells es sLen (.slice base sLen sCap)).run P { w with drawn := dr } = .ok old { w with drawn := dr }) :
    ∃ (cap : Nat) (rest : Array Value), sLen + m ≤ cap ∧ rest.size = (cap - (sLen + m)) * es ∧
      (Builtin.append_ c ty #[.slice base sLen sCap, .int kk m]).run P w = .ok (.slice (some ⟨w.heap.size, 0, none⟩) (sLen + m) cap) ({ w with drawn := w.drawn + 1 }.alloc (.cells (old ++ Builtin.zeroCells z.cells m ++ rest) e)) := by
  have hsz' : sizeT P e = some es := by simp [sizeT, hi, hsz]
  have hneed : sLen + m < 2 ^ 38 := by
    have : (sLen + m) * 1 ≤ (sLen + m) * es := Nat.mul_le_mul_left _ hes
    omega
  have hnc := nextcap_le (sLen + m) sCap hlt
  have hbytes : Builtin.nextslicecap (sLen + m) sCap * i.bytes ≤ 2 ^ 48 := by
    have := Nat.mul_le_mul hnc hb
    omega
  have hw : IntKind.i64.wrap (m : Int) = m := by rw [IntKind.wrap_i64]; omega
  have hmb : ¬ ((m : Int) * (i.bytes : Int) > 2 ^ 48) := by
    have : m * i.bytes ≤ 2 ^ 38 * 256 := Nat.mul_le_mul (by omega) hb
    have h2 : ((m * i.bytes : Nat) : Int) = (m : Int) * (i.bytes : Int) := by push_cast; rfl
    omega
  have hneg : ¬ ((m : Int) < 0) := by omega
  have hns : ¬ (m * es = 0) := Nat.mul_ne_zero (by omega) (by omega)
  have has : (asInt (.int kk m)).run P w = .ok (m : Int) w := by simp [asInt, asIntOf]
  simp only [Builtin.append_, hc0, hc1, arr2_0, arr2_1, Sem.run_bind, run_underlying ht, run_underlying hu, Result.andThen_ok, run_sizeOf hsz', Sem.run_pure, has, hw,
    if_true, if_neg hneg, run_typeInfo hi, if_neg hmb, Int.toNat_natCast, Bool.not_true, Bool.false_eq_true, if_false, if_neg hns]
  rw [if_neg (by omega)]
  simp only [Sem.run_bind, run_typeInfo hi, Result.andThen_ok]
  rw [if_neg (by
    intro hh
    have : IntKind.i64.max = 9223372036854775807 := rfl
    rw [this] at hh; omega)]
  simp only [Sem.run_bind, Sem.run_pure, Result.andThen_ok, run_typeInfo hi]
  rw [if_neg (by omega)]
  simp only [Sem.run_pure, Result.andThen_ok, Sem.run_bind, run_choose, Question.forced, Bool.false_eq_true, if_false, run_askRoom, run_typeInfo hi, hold, hz]
  refine ⟨Question.cut (.appendCap (sLen + m) sCap e) (w.tape w.drawn (.appendCap (sLen + m) sCap e)), Builtin.zeroCells z.cells (Question.cut (.appendCap (sLen + m) sCap e) (w.tape w.drawn (.appendCap (sLen + m) sCap e)) - (sLen + m)), ?_, ?_, ?_⟩
  · simp only [Question.cut]; omega
  · simp [Builtin.zeroCells, hzs]
  · simp [newRow]

theorem zeroCells_list {es : Nat} (z : Array Value) (hz : z.size = es) (n : Nat) : (Builtin.zeroCells z n).toList = (List.range (n * es)).map fun j => z.toList[j % es]! := by
  simp only [Builtin.zeroCells, Array.toList_map, Array.toList_range, hz]
  refine List.map_congr_left fun j _ => ?_
  rw [List.getElem!_eq_getElem?_getD, Array.getElem!_eq_getD, Array.getD_eq_getD_getElem?, Array.getElem?_toList]

theorem repL_len {z : List AV} : ∀ n, (repL n z).length = n * z.length
  | 0 => by simp [repL]
  | n + 1 => by simp only [repL, List.length_append, repL_len n, Nat.add_mul]; omega

theorem apz_ok (hI : Inv CR g s w) {c : Array TypeId} {t u e es : Nat} {kn : IntKind} {i : TypeInfo} {z : AV} {ty : TypeId} (hc0 : c[0]? = some t) (hc1 : c[1]? = some u) (ht : P.underlying t = some (.slice e)) (hu : P.underlying u = some (.int kn))
    (hi : P.info? e = some i) (hsz : i.size = es) (hb : i.bytes ≤ 256) (hes : 1 ≤ es) (hz : zeroT P e = some z) (hzl : z.cells.length = es) {x k r : AV} {xv kv : Value} (hx : V g s w x xv) (hk : V g s w k kv)
    (h : apzA s es e z.cells x k = some (r, s')) : ∃ v w', (Builtin.append_ c ty #[xv, kv]).run P w = .ok v w' ∧ Good CR g s w s' r v w' := by
  unfold apzA at h
  split at h <;> try (cases h; done)
  rename_i id e' off n q kk m0
  split at h <;> try (cases h; done)
  rename_i hc
  obtain ⟨rfl, hex, hm0, hroom, hsm⟩ := hc
  split at h <;> try (cases h; done)
  rename_i cs hr
  split at h <;> try (cases h; done)
  rename_i hone
  cases h
  obtain ⟨m, rfl⟩ : ∃ m : Nat, m0 = m := ⟨m0.toNat, by omega⟩
  simp only [Int.toNat_natCast] at *
  simp only [V] at hx hk
  subst hk
  obtain ⟨o, cap, rfl, hid, hz1, hq, ho, _⟩ := hx
  have hqq := hq.2 hex
  have hcap : cap < n + m := by
    have : cap * e' < (n + m) * e' := by omega
    exact Nat.lt_of_mul_lt_mul_right this
  obtain ⟨us', r1, r2, r3, r4⟩ := rowB_ok hI hr
  obtain ⟨zv, z1, z2⟩ := run_zeroValue hz
  have hzs : zv.cells.toList.length = e' := by
    have := (V_cells (z2 g s w)).length
    omega
  have hzs' : zv.cells.size = e' := by simpa using hzs
  have hVz : VL g s w (repL m z.cells) (Builtin.zeroCells zv.cells m).toList := by
    rw [zeroCells_list _ hzs']
    exact VL_rep (V_cells (z2 g s w)) hzs hes m
  have hVall := VL_append r1 hVz
  have hlen : (cs ++ repL m z.cells).length = (n + m) * e' := by
    rw [List.length_append, r3, repL_len, hzl, Nat.add_mul]
  obtain ⟨vs, f1, f2, f3⟩ := chunk_ok hes (n + m) hlen hone hVall
  have hcl := chunk_len e' (n + m) (cs ++ repL m z.cells) (by omega) hes
  obtain ⟨cap2, rest, j1, j2, j3⟩ := run_append_zeros (P := P) (w := w) (ty := ty) hc0 hc1 ht hu hi hsz hb hes z1 hzs' (base := some ⟨g.bx id, o, none⟩) (sLen := n) (sCap := cap) (m := m) (kk := kk) hcap (by omega) hsm (old := us'.toArray) (fun dr => by
    simp only [Builtin.firstCells]
    by_cases h0 : n = 0
    · subst h0
      have : us' = [] := List.length_eq_zero_iff.1 (by omega)
      subst this
      simp [loadCells, loadCellsFrom]
    · rw [ho (by omega)]
      exact run_loadCells r2 (cellsAt_heap rfl r4))
  have hdr : Le g s w g s { w with drawn := w.drawn + 1 } := Le.heap rfl
  have hIdr : Inv CR g s { w with drawn := w.drawn + 1 } := Inv.heap (w := w) rfl hI
  have hsz2 : cap2 * e' ≤ (us'.toArray ++ Builtin.zeroCells zv.cells m ++ rest).size := by
    have e1 : (Builtin.zeroCells zv.cells m).size = m * e' := by simp [Builtin.zeroCells, hzs']
    simp only [Array.size_append, List.size_toArray, r2, e1, j2]
    rw [← Nat.add_mul, ← Nat.add_mul]
    exact Nat.mul_le_mul_right _ (by omega)
  have hg := newTok_good (CR := CR) hIdr hes f3 (VL_mono hdr _ _ f1) e (rest := rest.toList) (arr := us'.toArray ++ Builtin.zeroCells zv.cells m ++ rest) (by simp [f2]) (by omega) hsz2 (ty := some e) (fr := (0, 0)) (fun x _ => by simp only; omega) (fun T' hT => ⟨by cases hT; rfl, rfl⟩)
  refine ⟨_, _, j3, ?_⟩
  rw [hcl] at hg
  exact Good.from hdr (Esc.refl _) hg

theorem run_overlaps {tS e size : Nat} (ht : P.underlying tS = some (.slice e)) (hz : sizeT P e = some size) {ts : Array TypeId} (hts : ts[0]? = some tS) (rs : Array TypeId) {a b : Addr} {la ca lb cb : Nat} (hne : a.block ≠ b.block)
    {arA arB : Array Value} {TA TB : Nat} {fA fB : Nat × Nat} (hA : w.heap[a.block]? = some (.cells arA TA fA)) (hB : w.heap[b.block]? = some (.cells arB TB fB)) (hfB : fB.2 = 0) (hsA : 0 < arA.size) :
    (Extern.SlicesOverlaps.overlaps ts rs #[.slice (some a) la ca, .slice (some b) lb cb]).run P w = .ok (.bool false) w := by
  have hnb : (a.block != b.block) = true := by simpa using hne
  have hnb' : (a.block == b.block) = false := by simpa using hne
  have hsa : w.shape? a.block = some (TA, arA.size) := by simp [World.shape?, hA]
  have hsb : w.shape? b.block = some (TB, arB.size) := by simp [World.shape?, hB]
  have hfb : w.frozen? b = false := by simp [World.frozen?, hB, hfB]
  have hfb2 : w.frozen? { block := b.block, off := arB.size } = false := by simp [World.frozen?, hB, hfB]
  have hz' : ∀ w, (Go.sizeOf e).run P w = .ok size w := fun w => run_sizeOf hz
  obtain ⟨sA, hsA'⟩ : ∃ k, arA.size = k + 1 := ⟨arA.size - 1, by omega⟩
  change Sem.run P (α := Value) (do
    let some t := ts[0]? | stuck "slices.overlaps: no parameter types"
    let .slice elem ← underlying t | stuck "slices.overlaps: slice type expected"
    let size ← sizeOf elem
    match (some a : Option Addr), (some b : Option Addr) with
    | some a, some b =>
      if la = 0 ∨ lb = 0 ∨ size = 0 then pure (Value.bool false)
      else if a.block != b.block && (← frozen a) && (← frozen b) then unsupported .addressObserved
      else do
        if a.block != b.block then do
          noView a; noView b
          if ← mayBeOne a b then return Value.bool ((← choose (.extern "sameAddr.stringBytes" 2)) == 1)
        pure (Value.bool (a.block == b.block && a.off < b.off + lb * size && b.off < a.off + la * size))
    | _, _ => pure (Value.bool false)) w = _
  by_cases h0 : la = 0 ∨ lb = 0 ∨ size = 0
  · simp [run_underlying ht, hz', h0, hts]
  · rw [hsA'] at hsa
    cases hfa : w.frozen? a <;> cases hfe : w.frozen? { block := a.block, off := sA + 1 } <;>
      simp [run_underlying ht, hz', h0, hts, hnb, hnb', frozen, noView, viewAt, mayBeOne, stringish, shape, Sem.run, hsa, hsb, hfa, hfe, hfb, hfb2]

theorem ovl_ok (hI : Inv CR g s w) {tS e es : Nat} (ht : P.underlying tS = some (.slice e)) (hz : sizeT P e = some es) (hes : 1 ≤ es) {ts : Array TypeId} (hts : ts[0]? = some tS) (rs : Array TypeId) {x y : AV} {xv yv : Value}
    (hx : V g s w x xv) (hy : V g s w y yv) (h : ovlA s es x y = true) : (Extern.SlicesOverlaps.overlaps ts rs #[xv, yv]).run P w = .ok (.bool false) w := by
  unfold ovlA at h
  split at h <;> try (cases h; done)
  rename_i id e2 off n q
  split at h <;> try (cases h; done)
  rename_i T l rm hb
  simp only [V] at hy
  obtain ⟨o, cap, rfl, hid, hz1, _⟩ := hy
  obtain ⟨arr, fr, r1, hfr, _⟩ := hI.box id _ hb
  have hpr := hI.pr id _ hb rfl
  have hlt := hI.lt id hid
  have key : ∀ {e' : Nat} {v : AV} {vs : List AV} {m : Cap}, m = .full ∨ m = .shut → Nat.beq e' es = true → V g s w (.sl e' (v :: vs) m) xv → (Extern.SlicesOverlaps.overlaps ts rs #[xv, .slice (some ⟨g.bx id, o, none⟩) n cap]).run P w = .ok (.bool false) w := by
    intro e' v vs m hm he hx
    obtain rfl := Nat.eq_of_beq_eq_true he
    simp only [V] at hx
    obtain ⟨b', o', cap', us, rfl, k1, k2, _, k3⟩ := hx
    obtain ⟨k4, k5, k6, _⟩ := k3 (by rcases hm with rfl | rfl <;> rfl)
    have hfl := flat_length k4 k2
    have hsafe : safe g b' (o' + (v :: vs).length * e') := by rcases hm with rfl | rfl <;> exact k6
    have hpos : 1 ≤ (v :: vs).length * e' := Nat.mul_pos (by simp) (by omega)
    have hne : b' ≠ g.bx id := by
      rintro rfl
      rcases hsafe with hs | hs
      · omega
      · omega
    obtain ⟨u, hu⟩ : ∃ u, (flat us)[0]? = some u := ⟨_, List.getElem?_eq_getElem (by omega)⟩
    have hc := k5 0 u hu
    simp only [World.cell?, Nat.add_zero] at hc
    cases hh : w.heap[b']? with
    | none => simp [hh] at hc
    | some ob =>
      cases ob <;> simp [hh] at hc
      rename_i arA TA fA
      refine run_overlaps ht hz hts rs (a := ⟨b', o', none⟩) (b := ⟨g.bx id, o, none⟩) hne hh r1 (hfr rfl) ?_
      have := (Array.getElem?_eq_some_iff.1 hc).1
      omega
  split at h <;> try (cases h; done)
  · exact key (.inl rfl) h hx
  · exact key (.inr rfl) h hx
  · rename_i f e' v vs
    rcases V_ws.1 hx with ⟨_, hx2⟩ | ⟨_, hx2⟩ | hx2
    · cases hx2
    · cases hx2
    · exact key (by cases f <;> simp [capM]) h hx2
end Go.Proofs.YtfaodjpibdhdjaaDoor.Am
