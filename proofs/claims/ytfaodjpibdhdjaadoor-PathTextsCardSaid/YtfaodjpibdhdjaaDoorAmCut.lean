/-
  What a call made is gone when it has ended: the younger boxes and rows are cut off.
-/
import Derived.Test.YtfaodjpibdhdjaaDoorAmCall2
import Derived.Test.YtfaodjpibdhdjaaDoorAmRow
set_option linter.all false
set_option linter.unusedVariables false
set_option linter.unusedSimpArgs false
set_option linter.unusedSectionVars false
set_option linter.constructorNameAsVariable false
namespace Go.Proofs.YtfaodjpibdhdjaaDoor.Am
section
variable {g0 g1 : G} {s0 s1 s2 : St} {w0 w1 w2 : World}

structure Cut (g0 : G) (s0 : St) (w0 : World) (g1 : G) (s1 : St) (w1 : World) (s2 : St) (w2 : World) : Prop where
  le : Le g0 s0 w0 g1 s1 w1
  nb : s0.nb ≤ s2.nb
  nt : s0.nt ≤ s2.nt
  tok : ∀ k, k < s0.nt → s2.tok? k = s1.tok? k
  cell : ∀ a v, w1.cell? a = some v → w2.cell? a = some v

theorem Cut.ok (h : Cut g0 s0 w0 g1 s1 w1 s2 w2) {m : Cap} (hk : Known s0 m) (ho : s2.ok m = true) : s1.ok m = true := by
  cases m with
  | full => rfl
  | shut => rfl
  | tok k v => simp only [St.ok] at ho ⊢; rw [← h.tok k hk.1]; exact ho
theorem Cut.known (h : Cut g0 s0 w0 g1 s1 w1 s2 w2) {m : Cap} (hk : Known s0 m) (hk1 : Known s1 m) : Known s2 m := by
  cases m with
  | full => trivial
  | shut => trivial
  | tok k v => exact ⟨Nat.lt_of_lt_of_le hk.1 h.nt, fun t ht => hk1.2 t (by rw [← h.tok k hk.1]; exact ht)⟩
theorem Cut.stays (h : Cut g0 s0 w0 g1 s1 w1 s2 w2) {m : Cap} (hk : Known s0 m) {b o n : Nat} (hs : Stays g1 s1 m b o n) : Stays g1 s2 m b o n := by
  cases m with
  | full => exact hs
  | shut => exact hs
  | tok k v =>
    rcases hs with hs | ⟨t, ht, hs⟩
    · exact .inl hs
    · exact .inr ⟨t, by rw [h.tok k hk.1]; exact ht, hs⟩
theorem Cut.capis (h : Cut g0 s0 w0 g1 s1 w1 s2 w2) {m : Cap} (hk : Known s0 m) {es len b o cap : Nat} (hs : CapIs g1 s1 m es len b o cap) : CapIs g1 s2 m es len b o cap := by
  cases m with
  | full => exact hs
  | shut => exact hs
  | tok k v =>
    obtain ⟨h1, h2, h3, h4⟩ := hs
    exact ⟨h1, h2, h3, fun t ht => h4 t (by rw [← h.tok k hk.1]; exact ht)⟩

theorem cells_to (hc : ∀ a v, w1.cell? a = some v → w2.cell? a = some v) {b o : Nat} {l : List Value} (h : cellsAt w1 b o l) : cellsAt w2 b o l := fun j v hj => hc _ _ (h j v hj)

mutual
theorem V_trunc (h : Cut g0 s0 w0 g1 s1 w1 s2 w2) : ∀ (a : AV) (v0 v : Value), V g0 s0 w0 a v0 → V g1 s1 w1 a v → V g1 s2 w2 a v
  | .b _, _, _, _, hv => by simpa only [V] using hv
  | .i _ _, _, _, _, hv => by simpa only [V] using hv
  | .s _, _, _, _, hv => by simpa only [V] using hv
  | .np, _, _, _, hv => by simpa only [V] using hv
  | .p id off, _, _, h0, hv => by
    simp only [V] at h0 hv ⊢
    exact ⟨Nat.lt_of_lt_of_le h0.1 h.nb, hv.2⟩
  | .ep l off m, _, _, h0, hv => by
    simp only [V] at h0 hv ⊢
    obtain ⟨b0, o0, cs0, _, hk0, hv0⟩ := h0
    obtain ⟨b, o, cs, he, hk, hv⟩ := hv
    refine ⟨b, o, cs, he, h.known hk0 hk, fun ho => ?_⟩
    have ho1 := h.ok hk0 ho
    obtain ⟨h1, h2, h3⟩ := hv ho1
    exact ⟨VL_trunc h l cs0 cs (hv0 (ok_back h.le hk0 ho1)).1 h1, cells_to h.cell h2, h.stays hk0 h3⟩
  | .nsl, _, _, _, hv => by simpa only [V] using hv
  | .sl es xs m, _, _, h0, hv => by
    simp only [V] at h0 hv ⊢
    obtain ⟨b0, o0, cap0, vs0, _, _, _, hk0, hv0⟩ := h0
    obtain ⟨b, o, cap, vs, he, hz, ha, hk, hv⟩ := hv
    refine ⟨b, o, cap, vs, he, hz, ha, h.known hk0 hk, fun ho => ?_⟩
    have ho1 := h.ok hk0 ho
    obtain ⟨h1, h2, h3, h4⟩ := hv ho1
    exact ⟨VL_trunc h xs vs0 vs (hv0 (ok_back h.le hk0 ho1)).1 h1, cells_to h.cell h2, h.stays hk0 h3, h.capis hk0 h4⟩
  | .ws f es xs, _, _, h0, hv => by
    simp only [V] at h0 hv ⊢
    rcases hv with hv | hv | ⟨b, o, cap, vs, he, hz, ha, hk, hv⟩
    · exact .inl hv
    · exact .inr (.inl hv)
    have h00 : xs = [] ∨ ∃ vs0, Known s0 (capM f) ∧ (s0.ok (capM f) = true → VL g0 s0 w0 xs vs0) := by
      rcases h0 with ⟨_, rfl⟩ | ⟨_, rfl⟩ | ⟨b0, o0, cap0, vs0, _, _, _, hk0, hv0⟩
      · exact .inl rfl
      · exact .inl rfl
      · exact .inr ⟨vs0, hk0, fun ho => (hv0 ho).1⟩
    rcases h00 with rfl | ⟨vs0, hk0, hv0⟩
    · right; right
      refine ⟨b, o, cap, vs, he, hz, ha, capM_ok.2, fun ho => ?_⟩
      obtain ⟨h1, h2, h3, h4⟩ := hv capM_ok.1
      simp only [VL] at h1; subst h1
      refine ⟨by simp [VL], fun j v hj => by simp [flat] at hj, ?_, ?_⟩
      · cases f <;> exact h3
      · cases f <;> exact h4
    refine .inr (.inr ⟨b, o, cap, vs, he, hz, ha, h.known hk0 hk, fun ho => ?_⟩)
    have ho1 := h.ok hk0 ho
    obtain ⟨h1, h2, h3, h4⟩ := hv ho1
    exact ⟨VL_trunc h xs vs0 vs (hv0 (ok_back h.le hk0 ho1)) h1, cells_to h.cell h2, h.stays hk0 h3, h.capis hk0 h4⟩
  | .bl id es off n e, _, _, h0, hv => by
    simp only [V] at h0 hv ⊢
    obtain ⟨_, _, _, h1, _⟩ := h0
    obtain ⟨o, cap, he, _, h2⟩ := hv
    exact ⟨o, cap, he, Nat.lt_of_lt_of_le h1 h.nb, h2⟩
  | .sd xs k u, _, _, h0, hv => by
    simp only [V] at h0 hv ⊢
    obtain ⟨b0, o0, cap0, vs0, _, _, _, hk0, hv0⟩ := h0
    obtain ⟨b, o, cap, vs, he, hz, ha, hk, hv⟩ := hv
    refine ⟨b, o, cap, vs, he, hz, ha, h.known hk0 hk, fun ho => ?_⟩
    have ho1 := h.ok hk0 ho
    obtain ⟨h1, h2, h3, h4⟩ := hv ho1
    exact ⟨VL_trunc h xs vs0 vs (hv0 (ok_back h.le hk0 ho1)).1 h1, cells_to h.cell h2, h.stays hk0 h3, h.capis hk0 h4⟩
  | .nm, _, _, _, hv => by simpa only [V] using hv
  | .m id, _, _, h0, hv => by
    simp only [V] at h0 hv ⊢
    exact ⟨Nat.lt_of_lt_of_le h0.1 h.nb, hv.2⟩
  | .nf, _, _, _, hv => by simpa only [V] using hv
  | .fn f caps, _, _, h0, hv => by
    simp only [V] at h0 hv ⊢
    obtain ⟨vs0, h01, _⟩ := h0
    obtain ⟨vs, h1, h2⟩ := hv
    exact ⟨vs, VL_trunc h caps vs0 vs h01 h1, h2⟩
  | .yld id, _, _, h0, hv => by
    simp only [V] at h0 hv ⊢
    exact ⟨Nat.lt_of_lt_of_le h0.1 h.nb, hv.2⟩
  | .ni, _, _, _, hv => by simpa only [V] using hv
  | .ifc t a, _, _, h0, hv => by
    simp only [V] at h0 hv ⊢
    obtain ⟨u0, h01, _⟩ := h0
    obtain ⟨u, h1, h2⟩ := hv
    exact ⟨u, V_trunc h a u0 u h01 h1, h2⟩
  | .agg l, _, _, h0, hv => by
    simp only [V] at h0 hv ⊢
    obtain ⟨vs0, h01, _⟩ := h0
    obtain ⟨vs, h1, h2⟩ := hv
    exact ⟨vs, VL_trunc h l vs0 vs h01 h1, h2⟩
  | .tup l, _, _, h0, hv => by
    simp only [V] at h0 hv ⊢
    obtain ⟨vs0, h01, _⟩ := h0
    obtain ⟨vs, h1, h2⟩ := hv
    exact ⟨vs, VL_trunc h l vs0 vs h01 h1, h2⟩
  | .any, _, _, _, hv => by simpa only [V] using hv
  | .ige _, _, _, _, hv => by simpa only [V] using hv
  | .wz, _, _, _, hv => by simpa only [V] using hv
  | .mth nm a, _, _, h0, hv => by
    simp only [V] at h0 hv ⊢
    obtain ⟨u0, h01, _⟩ := h0
    obtain ⟨u, h1, h2⟩ := hv
    exact ⟨u, V_trunc h a u0 u h01 h1, h2⟩
theorem VL_trunc (h : Cut g0 s0 w0 g1 s1 w1 s2 w2) : ∀ (l : List AV) (vs0 vs : List Value), VL g0 s0 w0 l vs0 → VL g1 s1 w1 l vs → VL g1 s2 w2 l vs
  | [], _, _, _, hv => by simpa only [VL] using hv
  | a :: l, _, _, h0, hv => by
    simp only [VL] at h0 hv ⊢
    obtain ⟨v0, r0, _, h01, h02⟩ := h0
    obtain ⟨v, r, he, h1, h2⟩ := hv
    exact ⟨v, r, he, V_trunc h a v0 v h01 h1, VL_trunc h l r0 r h02 h2⟩
end

mutual
theorem V_norefs (hc : ∀ a v, w1.cell? a = some v → w2.cell? a = some v) : ∀ (a : AV) (v : Value), a.refs = false → V g1 s1 w1 a v → V g1 s2 w2 a v
  | .b _, _, _, hv => by simpa only [V] using hv
  | .i _ _, _, _, hv => by simpa only [V] using hv
  | .s _, _, _, hv => by simpa only [V] using hv
  | .np, _, _, hv => by simpa only [V] using hv
  | .p id off, _, h0, _ => by simp [AV.refs] at h0
  | .ep l off m, _, h0, hv => by
    cases m with
    | tok k u => simp [AV.refs] at h0
    | full | shut =>
      simp only [AV.refs] at h0
      simp only [V] at hv ⊢
      obtain ⟨b, o, cs, he, hk, hv⟩ := hv
      refine ⟨b, o, cs, he, trivial, fun ho => ?_⟩
      obtain ⟨h1, h2, h3⟩ := hv rfl
      exact ⟨VL_norefs hc l cs h0 h1, cells_to hc h2, h3⟩
  | .nsl, _, _, hv => by simpa only [V] using hv
  | .sl es xs m, _, h0, hv => by
    cases m with
    | tok k u => simp [AV.refs] at h0
    | full | shut =>
      simp only [AV.refs] at h0
      simp only [V] at hv ⊢
      obtain ⟨b, o, cap, vs, he, hz, ha, hk, hv⟩ := hv
      refine ⟨b, o, cap, vs, he, hz, ha, trivial, fun ho => ?_⟩
      obtain ⟨h1, h2, h3, h4⟩ := hv rfl
      exact ⟨VL_norefs hc xs vs h0 h1, cells_to hc h2, h3, h4⟩
  | .ws f es xs, _, h0, hv => by
    simp only [AV.refs] at h0
    simp only [V] at hv ⊢
    rcases hv with hv | hv | ⟨b, o, cap, vs, he, hz, ha, hk, hv⟩
    · exact .inl hv
    · exact .inr (.inl hv)
    refine .inr (.inr ⟨b, o, cap, vs, he, hz, ha, capM_ok.2, fun ho => ?_⟩)
    obtain ⟨h1, h2, h3, h4⟩ := hv capM_ok.1
    refine ⟨VL_norefs hc xs vs h0 h1, cells_to hc h2, ?_, ?_⟩
    · cases f <;> exact h3
    · cases f <;> exact h4
  | .bl _ _ _ _ _, _, h0, _ => by simp [AV.refs] at h0
  | .sd xs k u, _, h0, _ => by simp [AV.refs] at h0
  | .nm, _, _, hv => by simpa only [V] using hv
  | .m id, _, h0, _ => by simp [AV.refs] at h0
  | .nf, _, _, hv => by simpa only [V] using hv
  | .fn f caps, _, h0, hv => by
    simp only [AV.refs] at h0
    simp only [V] at hv ⊢
    obtain ⟨vs, h1, h2⟩ := hv
    exact ⟨vs, VL_norefs hc caps vs h0 h1, h2⟩
  | .yld id, _, h0, _ => by simp [AV.refs] at h0
  | .ni, _, _, hv => by simpa only [V] using hv
  | .ifc t a, _, h0, hv => by
    simp only [AV.refs] at h0
    simp only [V] at hv ⊢
    obtain ⟨u, h1, h2⟩ := hv
    exact ⟨u, V_norefs hc a u h0 h1, h2⟩
  | .agg l, _, h0, hv => by
    simp only [AV.refs] at h0
    simp only [V] at hv ⊢
    obtain ⟨vs, h1, h2⟩ := hv
    exact ⟨vs, VL_norefs hc l vs h0 h1, h2⟩
  | .tup l, _, h0, hv => by
    simp only [AV.refs] at h0
    simp only [V] at hv ⊢
    obtain ⟨vs, h1, h2⟩ := hv
    exact ⟨vs, VL_norefs hc l vs h0 h1, h2⟩
  | .any, _, _, hv => by simpa only [V] using hv
  | .ige _, _, _, hv => by simpa only [V] using hv
  | .wz, _, _, hv => by simpa only [V] using hv
  | .mth nm a, _, h0, hv => by
    simp only [AV.refs] at h0
    simp only [V] at hv ⊢
    obtain ⟨u, h1, h2⟩ := hv
    exact ⟨u, V_norefs hc a u h0 h1, h2⟩
theorem VL_norefs (hc : ∀ a v, w1.cell? a = some v → w2.cell? a = some v) : ∀ (l : List AV) (vs : List Value), AV.refs.go l = false → VL g1 s1 w1 l vs → VL g1 s2 w2 l vs
  | [], _, _, hv => by simpa only [VL] using hv
  | a :: l, _, h0, hv => by
    simp only [AV.refs.go, Bool.or_eq_false_iff] at h0
    simp only [VL] at hv ⊢
    obtain ⟨v, r, he, h1, h2⟩ := hv
    exact ⟨v, r, he, V_norefs hc a v h0.1 h1, VL_norefs hc l r h0.2 h2⟩
end

theorem Le.cut (h : Cut g0 s0 w0 g1 s1 w1 s2 w2) (hsz : w1.heap.size ≤ w2.heap.size) (hnb : s2.nb ≤ s1.nb) (hnt : s2.nt ≤ s1.nt) (hbase : g0.base ≤ w0.heap.size) (hlow : ∀ b, b < w0.heap.size → w2.heap[b]? = w1.heap[b]?) (hd : ∀ b, b < w0.heap.size → w1.heap[b]? = some (.deferred (some [])) → w2.heap[b]? = some (.deferred (some []))) (hio : w2.os = w1.os ∧ w2.output = w1.output := by exact ⟨rfl, rfl⟩) :
    Le g0 s0 w0 g1 s2 w2 where
  io := ⟨hio.1.trans h.le.io.1, hio.2.trans h.le.io.2⟩
  base := h.le.base
  size := Nat.le_trans h.le.size hsz
  low := fun b hb => by rw [hlow b (Nat.lt_of_lt_of_le hb hbase)]; exact h.le.low b hb
  own := fun b hb ho => h.le.own b hb (ho.imp (fun ⟨id, h1, h2⟩ => ⟨id, Nat.lt_of_lt_of_le h1 hnb, h2⟩) fun ⟨k, h1, h2⟩ => ⟨k, Nat.lt_of_lt_of_le h1 hnt, h2⟩)
  frame := fun b hb ho => by
    obtain ⟨h1, h2⟩ := h.le.frame b hb ho
    exact ⟨(hlow b hb).trans h1, h2⟩
  prot := h.le.prot
  cell := fun b off v hs hc => h.cell _ _ (h.le.cell b off v hs hc)
  dfr := fun b hb => hd b (Array.getElem?_eq_some_iff.1 hb).1 (h.le.dfr b hb)
  nb := h.nb
  bx := h.le.bx
  nt := h.nt
  has := fun k v t' hk ht => h.le.has k v t' hk (by rw [← h.tok k hk.1]; exact ht)
  ok := fun k v hk ho => h.le.ok k v hk (h.ok (m := .tok k v) hk ho)
  tok := fun k t t' hk ht ht' hv => by
    obtain ⟨k1, k2⟩ := h.le.tok k t t' hk ht (by rw [← h.tok k hk]; exact ht') hv
    exact ⟨fun off x ho hx => h.cell _ _ (k1 off x ho hx), k2⟩

/-- A value that a box may hold after the cut. -/
def Was (g0 : G) (s0 : St) (w0 : World) (a : AV) : Prop := a.refs = false ∨ ∃ v0, V g0 s0 w0 a v0

theorem V_was (h : Cut g0 s0 w0 g1 s1 w1 s2 w2) {a : AV} {v : Value} (ha : Was g0 s0 w0 a) (hv : V g1 s1 w1 a v) : V g1 s2 w2 a v := by
  rcases ha with ha | ⟨v0, h0⟩
  · exact V_norefs h.cell a v ha hv
  · exact V_trunc h a v0 v h0 hv
theorem VL_was (h : Cut g0 s0 w0 g1 s1 w1 s2 w2) : ∀ {l : List AV} {vs : List Value}, (∀ a ∈ l, Was g0 s0 w0 a) → VL g1 s1 w1 l vs → VL g1 s2 w2 l vs
  | [], _, _, hv => by simpa only [VL] using hv
  | a :: l, _, ha, hv => by
    simp only [VL] at hv ⊢
    obtain ⟨v, r, he, h1, h2⟩ := hv
    exact ⟨v, r, he, V_was h (ha a (by simp)) h1, VL_was h (fun b hb => ha b (by simp [hb])) h2⟩
theorem VM_was (h : Cut g0 s0 w0 g1 s1 w1 s2 w2) : ∀ {l : List (AV × AV)} {es : List MapEntry}, (∀ x ∈ l, Was g0 s0 w0 x.1 ∧ Was g0 s0 w0 x.2) → VM g1 s1 w1 l es → VM g1 s2 w2 l es
  | [], _, _, hv => hv
  | x :: l, _, ha, ⟨e, r, he, h1, h2, h3⟩ => ⟨e, r, he, V_was h (ha x (by simp)).1 h1, V_was h (ha x (by simp)).2 h2, VM_was h (fun b hb => ha b (by simp [hb])) h3⟩

theorem Inv.cut {CR : Nat → Code → C → Prop} (h : Cut g0 s0 w0 g1 s1 w1 s2 w2) (hI : Inv CR g1 s1 w1) (hsz : w2.heap.size = w1.heap.size) (hh : ∀ b : Nat, w2.heap[b]? = w1.heap[b]? ∨ ∃ ds, w1.heap[b]? = some (.deferred ds))
    (hnb : s2.nb ≤ s1.nb) (hnt : s2.nt ≤ s1.nt) (hlB : s2.boxes.length = s2.nb) (hlT : s2.toks.length = s2.nt) (hb : ∀ id, id < s2.nb → s2.box? id = s1.box? id) (ht : ∀ k, k < s2.nt → s2.tok? k = s1.tok? k)
    (hv : ∀ id B, s2.box? id = some B → ∀ a, vals B a → Was g0 s0 w0 a) : Inv CR g1 s2 w2 where
  lenB := hlB
  lenT := hlT
  base := by rw [hsz]; exact hI.base
  fresh := by rw [hsz]; exact hI.fresh
  lt := fun id hid => by rw [hsz]; exact hI.lt id (by omega)
  box := fun id B hB => by
    have hid := box?_lt hB
    have hB1 : s1.box? id = some B := by rw [← hb id hid]; exact hB
    have hOk := hI.box id B hB1
    have hvals := hv id B hB
    have same : ∀ o : Obj, w1.heap[g1.bx id]? = some o → (∀ ds, o ≠ .deferred ds) → w2.heap[g1.bx id]? = some o := by
      intro o ho hne
      rcases hh (g1.bx id) with h | ⟨ds, h⟩
      · rw [h]; exact ho
      · rw [ho] at h; cases h; exact absurd rfl (hne ds)
    cases B with
    | cells T l =>
      obtain ⟨arr, h1, h2⟩ := hOk
      exact ⟨arr, same _ h1 (fun _ hh => by cases hh), VL_was h (fun a ha => hvals a ha) h2⟩
    | map es =>
      obtain ⟨ents, clock, h1, h2⟩ := hOk
      exact ⟨ents, clock, same _ h1 (fun _ hh => by cases hh), VM_was h (fun x hx => ⟨hvals x.1 ⟨x, hx, .inl rfl⟩, hvals x.2 ⟨x, hx, .inr rfl⟩⟩) h2⟩
    | loop st pend tm ps x y =>
      obtain ⟨L, h1, h2, h3, h4, h5⟩ := hOk
      exact ⟨L, same _ h1 (fun _ hh => by cases hh), h2, h3, ⟨h4.1, fun t => V_was h (hvals _ ⟨t, rfl⟩) (h4.2 t)⟩, h5⟩
    | siter l pos =>
      obtain ⟨h1, h2⟩ := hOk
      exact ⟨same _ h1 (fun _ hh => by cases hh), h2⟩
    | row T l fz rm =>
      obtain ⟨arr, fr, h1, h2, vs, rest, h3, h4, h5⟩ := hOk
      exact ⟨arr, fr, same _ h1 (fun _ hh => by cases hh), h2, vs, rest, h3, VL_was h (fun a ha => hvals a ha) h4, h5⟩
    | used => trivial
  pr := fun id B hB hf => hI.pr id B (by rw [← hb id (box?_lt hB)]; exact hB) hf
  inj := fun i j A B hA hB la lb => hI.inj i j A B (by rw [← hb i (box?_lt hA)]; exact hA) (by rw [← hb j (box?_lt hB)]; exact hB) la lb
  tlt := fun k t hk => by rw [hsz]; exact hI.tlt k t (by rw [← ht k (tok?_lt hk)]; exact hk)
  tok := fun k t htk => by
    have hk := tok?_lt htk
    obtain ⟨q1, q2, q3, q4, q5, arr, T, fr, h1, h2, h3⟩ := hI.tok k t (by rw [← ht k hk]; exact htk)
    refine ⟨q1, q2, q3, q4, q5, arr, T, fr, ?_, h2, h3⟩
    rcases hh (g1.tk k).blk with h | ⟨ds, h⟩
    · rw [h]; exact h1
    · rw [h1] at h; cases h
  tall := fun k hk => by rw [hsz]; exact hI.tall k (by omega)
  tinj := fun i j t u hi hj => hI.tinj i j t u (by rw [← ht i (tok?_lt hi)]; exact hi) (by rw [← ht j (tok?_lt hj)]; exact hj)
  btk := fun i B k t hB lb hk => hI.btk i B k t (by rw [← hb i (box?_lt hB)]; exact hB) lb (by rw [← ht k (tok?_lt hk)]; exact hk)
end
section
variable {P : Program} {gt : Nat → Option (List AV)} {g g2 : G} {s s' s2 : St} {w w2 : World} {r : AV}
theorem VL_mem : ∀ {l : List AV} {vs : List Value}, VL g s w l vs → ∀ {a : AV}, a ∈ l → ∃ v, V g s w a v
  | b :: l, _, h, a, ha => by
    simp only [VL] at h
    obtain ⟨v, r, rfl, h1, h2⟩ := h
    rcases List.mem_cons.1 ha with rfl | ha
    · exact ⟨v, h1⟩
    · exact VL_mem h2 ha
theorem VM_mem : ∀ {l : List (AV × AV)} {es : List MapEntry}, VM g s w l es → ∀ {x : AV × AV}, x ∈ l → ∃ v1 v2, V g s w x.1 v1 ∧ V g s w x.2 v2
  | y :: l, _, ⟨e, r, he, h1, h2, h3⟩, x, hx => by
    rcases List.mem_cons.1 hx with rfl | hx
    · exact ⟨_, _, h1, h2⟩
    · exact VM_mem h3 hx

theorem box_was {CR : Nat → Code → C → Prop} (hI : Inv CR g s w) {id : Nat} {B : Box} (hB : s.box? id = some B) {a : AV} (ha : vals B a) : ∃ v, V g s w a v := by
  have hOk := hI.box id B hB
  cases B with
  | cells T l =>
    obtain ⟨arr, h1, h2⟩ := hOk
    exact VL_mem h2 ha
  | map es =>
    obtain ⟨ents, clock, h1, h2⟩ := hOk
    obtain ⟨x, hx, ha⟩ := ha
    obtain ⟨v1, v2, k1, k2⟩ := VM_mem h2 hx
    rcases ha with rfl | rfl
    · exact ⟨v1, k1⟩
    · exact ⟨v2, k2⟩
  | loop st pend tm ps x y =>
    obtain ⟨L, h1, h2, h3, h4, h5⟩ := hOk
    obtain ⟨t, rfl⟩ := ha
    exact ⟨_, h4.2 t⟩
  | siter l pos => exact ha.elim
  | row T l fz =>
    obtain ⟨arr, fr, h1, h2, vs, rest, h3, h4, _⟩ := hOk
    exact VL_mem h4 ha
  | used => exact ha.elim

/-- What a call leaves. -/
theorem leave_lo {v : Value} (hI : Inv (CRof P gt) g2 s2 w2) (hL : Le g { s with lo := s.nb } w g2 s2 w2) (hE : Esc { s with lo := s.nb } s2) (hV : V g2 s2 w2 r v) : Good (CRof P gt) g s w { s2 with lo := min s.lo s2.lo } r v w2 := by
  refine ⟨g2, hI.lo _, ((Le.lo s.nb).trans hL).trans (Le.lo _), V_mono (Le.lo _) _ _ hV, Nat.min_le_left _ _, fun nb h1 h2 id B' hid hB a ha => ?_⟩
  exact hE.2 nb h1 (by have : nb ≤ min s.lo s2.lo := h2; omega) id B' hid hB a ha

theorem leave_ok {v : Value} (hI0 : Inv (CRof P gt) g s w) (hI : Inv (CRof P gt) g2 s2 w2) (hL : Le g { s with lo := s.nb } w g2 s2 w2) (hE : Esc { s with lo := s.nb } s2) (hV : V g2 s2 w2 r v) : Good (CRof P gt) g s w (leave s s2 r) r v w2 := by
  unfold leave
  split
  · rename_i hc
    simp only [Bool.and_eq_true, Nat.ble_eq, Bool.not_eq_true'] at hc
    obtain ⟨hlo, href⟩ := hc
    have hLe : Le g s w g2 s2 w2 := (Le.lo s.nb).trans hL
    have hnb := hLe.nb
    have hnt := hLe.nt
    obtain ⟨s3, hs3⟩ : ∃ s3 : St, { nb := s.nb, boxes := s2.boxes.drop (s2.nb - s.nb), nt := s.nt, toks := s2.toks.drop (s2.nt - s.nt), lo := s.lo } = s3 := ⟨_, rfl⟩
    rw [hs3]
    have e1 : s3.nb = s.nb := by rw [← hs3]
    have e2 : s3.nt = s.nt := by rw [← hs3]
    have hb : ∀ id, id < s3.nb → s3.box? id = s2.box? id := fun id hid => by
      rw [e1] at hid
      rw [← hs3]
      simp only [St.box?]
      have k1 : Nat.blt id s.nb = true := by rw [Nat.blt_eq]; exact hid
      have k2 : Nat.blt id s2.nb = true := by rw [Nat.blt_eq]; omega
      rw [k1, k2]
      simp only [cond_true, List.getElem?_drop]
      congr 1; omega
    have ht : ∀ k, k < s3.nt → s3.tok? k = s2.tok? k := fun k hk => by
      rw [e2] at hk
      rw [← hs3]
      simp only [St.tok?]
      have k1 : Nat.blt k s.nt = true := by rw [Nat.blt_eq]; exact hk
      have k2 : Nat.blt k s2.nt = true := by rw [Nat.blt_eq]; omega
      rw [k1, k2]
      simp only [cond_true, List.getElem?_drop]
      congr 2; omega
    have hcut : Cut g s w g2 s2 w2 s3 w2 := ⟨hLe, by omega, by omega, fun k hk => ht k (by omega), fun _ _ h => h⟩
    have hvals : ∀ id B, s3.box? id = some B → ∀ a, vals B a → a.refs = false ∨ ∃ B0, s.box? id = some B0 ∧ vals B0 a := fun id B hB a ha => by
      have hid := box?_lt hB
      rw [hb id hid] at hB
      exact hE.2 s.nb (Nat.le_refl _) hlo id B (by omega) hB a ha
    refine ⟨g2, Inv.cut hcut hI rfl (fun _ => .inl rfl) (by omega) (by omega) ?_ ?_ hb ht ?_, Le.cut hcut (Nat.le_refl _) (by omega) (by omega) hI0.base (fun _ _ => rfl) (fun _ _ h => h), V_norefs (fun _ _ h => h) r v href hV, ?_⟩
    · rw [← hs3]; simp [hI.lenB]; omega
    · rw [← hs3]; simp [hI.lenT]; omega
    · intro id B hB a ha
      rcases hvals id B hB a ha with h | ⟨B0, h0, ha0⟩
      · exact .inl h
      · exact .inr (box_was hI0 h0 ha0)
    · refine ⟨by rw [← hs3]; exact Nat.le_refl _, fun nb _ _ id B' _ hB a ha => hvals id B' hB a ha⟩
  · exact leave_lo hI hL hE hV

end
end Go.Proofs.YtfaodjpibdhdjaaDoor.Am
