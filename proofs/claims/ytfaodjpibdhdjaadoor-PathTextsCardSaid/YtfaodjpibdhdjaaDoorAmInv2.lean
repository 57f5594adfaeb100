/-
  More changes that keep the invariant: a box written, a slice handed on, a slice cut short, a slice that grows.
-/
import Derived.Test.YtfaodjpibdhdjaaDoorAmInv
set_option linter.all false
set_option linter.unusedVariables false
set_option linter.unusedSimpArgs false
set_option linter.unusedSectionVars false
set_option linter.constructorNameAsVariable false
namespace Go.Proofs.YtfaodjpibdhdjaaDoor.Am
variable {CR : Nat → Code → C → Prop} {g : G} {s : St} {w w' : World}

theorem live_of {B : Box} (h : B.frz = false) : B.live = true := by cases B <;> first | rfl | simp [Box.frz] at h

theorem setTok_old (hI : Inv CR g s w) {k : Nat} {t t' : Tok} (ht : s.tok? k = some t) {j : Nat} {u : Tok} (h : (s.setTok k t').tok? j = some u) : ∃ u', s.tok? j = some u' := by
  rw [setTok_tok? hI.lenT (tok?_lt ht)] at h
  by_cases hj : j = k
  · subst hj; exact ⟨t, ht⟩
  · rw [if_neg hj] at h; exact ⟨u, h⟩
theorem tlt_set (hI : Inv CR g s w) {k : Nat} {t t' : Tok} (ht : s.tok? k = some t) : ∀ j u, (s.setTok k t').tok? j = some u → (g.tk j).blk < w.heap.size := fun j u h => by
  obtain ⟨u', h'⟩ := setTok_old hI ht h; exact hI.tlt j u' h'
theorem tinj_set (hI : Inv CR g s w) {k : Nat} {t t' : Tok} (ht : s.tok? k = some t) : ∀ i j u v, (s.setTok k t').tok? i = some u → (s.setTok k t').tok? j = some v → (g.tk i).blk = (g.tk j).blk → i = j := fun i j u v hi hj h => by
  obtain ⟨u', h1⟩ := setTok_old hI ht hi
  obtain ⟨v', h2⟩ := setTok_old hI ht hj
  exact hI.tinj i j u' v' h1 h2 h
theorem btk_set (hI : Inv CR g s w) {k : Nat} {t t' : Tok} (ht : s.tok? k = some t) : ∀ i B j u, (s.setTok k t').box? i = some B → B.live = true → (s.setTok k t').tok? j = some u → g.bx i ≠ (g.tk j).blk := fun i B j u hB lb h => by
  obtain ⟨u', h'⟩ := setTok_old hI ht h; exact hI.btk i B j u' hB lb h'

/-! ### A box is written -/
theorem Le.setBox (hI : Inv CR g s w) {id : Nat} {B0 : Box} (hb0 : s.box? id = some B0) (hf0 : B0.frz = false) (B : Box) (hsz : w'.heap.size = w.heap.size) (hh : ∀ b, b ≠ g.bx id → w'.heap[b]? = w.heap[b]?)
    (hnd : w.heap[g.bx id]? ≠ some (.deferred (some []))) (hio : w'.os = w.os ∧ w'.output = w.output := by exact ⟨rfl, rfl⟩) : Le g s w g (s.setBox id B) w' where
  io := hio
  own := fun _ _ h => h
  frame := fun b _ ho => ⟨hh b fun he => ho (.inl ⟨id, box?_lt hb0, he.symm⟩), rfl⟩
  base := rfl
  size := by omega
  low := fun b hb => hh b (by have := (hI.lt id (box?_lt hb0)).1; omega)
  prot := fun _ => Nat.le_refl _
  cell := fun b off v hs hc => by
    have hne : b ≠ g.bx id := fun h => by
      subst h
      obtain ⟨h1, _⟩ := hI.lt id (box?_lt hb0)
      have h3 := hI.pr id B0 hb0 hf0
      rcases hs with hs | hs <;> omega
    simp only [World.cell?, hh b hne] at hc ⊢
    exact hc
  dfr := fun b hb => by rw [hh b (fun he => hnd (he ▸ hb))]; exact hb
  nb := Nat.le_refl _
  bx := fun _ _ => rfl
  nt := Nat.le_refl _
  has := fun _ _ _ hk h => hk.2 _ h
  ok := fun _ _ _ h => h
  tok := tokLe_same (fun _ => rfl) (fun k t off x ht _ hc => by
    have hne : (g.tk k).blk ≠ g.bx id := fun h => hI.btk id B0 k t hb0 (live_of hf0) ht h.symm
    simp only [World.cell?, hh _ hne] at hc ⊢
    exact hc) (fun _ _ => rfl)

theorem Inv.setBox (hI : Inv CR g s w) {id : Nat} {B0 : Box} (hb0 : s.box? id = some B0) (hf0 : B0.frz = false) (B : Box) (hsz : w'.heap.size = w.heap.size) (hh : ∀ b, b ≠ g.bx id → w'.heap[b]? = w.heap[b]?)
    (hnd : w.heap[g.bx id]? ≠ some (.deferred (some []))) (hB : BoxOk CR g (s.setBox id B) w' (g.bx id) B) (hio : w'.os = w.os ∧ w'.output = w.output := by exact ⟨rfl, rfl⟩) : Inv CR g (s.setBox id B) w' where
  lenB := by simp [St.setBox, hI.lenB]
  lenT := hI.lenT
  base := by rw [hsz]; exact hI.base
  fresh := by rw [hsz]; exact hI.fresh
  lt := by rw [hsz]; exact hI.lt
  pr := fun j b hb hf => by
    rw [setBox_box? hI.lenB (box?_lt hb0)] at hb
    by_cases h : j = id
    · subst h; exact hI.pr j B0 hb0 hf0
    · rw [if_neg h] at hb; exact hI.pr j b hb hf
  box := fun j b hb => by
    rw [setBox_box? hI.lenB (box?_lt hb0)] at hb
    by_cases h : j = id
    · subst h; rw [if_pos rfl] at hb; cases hb; exact hB
    · rw [if_neg h] at hb
      cases hl : b.live with
      | false => cases b <;> simp [Box.live] at hl; trivial
      | true => exact (hI.box j b hb).mono (Le.setBox hI hb0 hf0 B hsz hh hnd hio) (hh _ (fun he => h (hI.inj j id b B0 hb hb0 hl (live_of hf0) he)))
  inj := fun i j X Y hX hY lx ly he => by
    have old : ∀ i X, (s.setBox id B).box? i = some X → X.live = true → ∃ X', s.box? i = some X' ∧ X'.live = true := fun i X hX lx => by
      rw [setBox_box? hI.lenB (box?_lt hb0)] at hX
      by_cases h : i = id
      · subst h; exact ⟨B0, hb0, live_of hf0⟩
      · rw [if_neg h] at hX; exact ⟨X, hX, lx⟩
    obtain ⟨X', x1, x2⟩ := old i X hX lx
    obtain ⟨Y', y1, y2⟩ := old j Y hY ly
    exact hI.inj i j X' Y' x1 y1 x2 y2 he
  tlt := by rw [hsz]; exact hI.tlt
  tok := fun k t ht => (hI.tok k t ht).heap (hh _ (fun he => hI.btk id B0 k t hb0 (live_of hf0) ht he.symm))
  tall := by rw [hsz]; exact hI.tall
  tinj := hI.tinj
  btk := fun i X k t hX lx ht => by
    rw [setBox_box? hI.lenB (box?_lt hb0)] at hX
    by_cases h : i = id
    · subst h; exact hI.btk i B0 k t hb0 (live_of hf0) ht
    · rw [if_neg h] at hX; exact hI.btk i X k t hX lx ht

/-! ### A slice is handed on -/
def G.pubd (g : G) (k n : Nat) : G := { g with prot := fun b => if b = (g.tk k).blk then max (g.prot b) (n * (g.tk k).es) else g.prot b }

section pub
variable {k : Nat} {t : Tok} (hI : Inv CR g s w) (ht : s.tok? k = some t) {n : Nat} (hn : n ≤ t.front)
include hI ht hn

theorem Le.pubd : Le g s w (g.pubd k n) (s.setTok k { t with pub := max t.pub n }) w where
  io := ⟨rfl, rfl⟩
  own := fun _ _ h => h
  frame := fun b _ ho => ⟨rfl, by simp only [G.pubd]; rw [if_neg fun he => ho (.inr ⟨k, tok?_lt ht, he.symm⟩)]⟩
  base := rfl
  size := Nat.le_refl _
  low := fun _ _ => rfl
  prot := fun b => by simp only [G.pubd]; split <;> omega
  cell := fun _ _ _ _ hc => hc
  dfr := fun _ hb => hb
  nb := Nat.le_refl _
  bx := fun _ _ => rfl
  nt := Nat.le_refl _
  has := fun j v t' hk h => by
    rw [setTok_tok? hI.lenT (tok?_lt ht)] at h
    by_cases hj : j = k
    · subst hj; rw [if_pos rfl] at h; cases h; exact hk.2 t ht
    · rw [if_neg hj] at h; exact hk.2 _ h
  ok := fun j v hk h => by
    rw [ok_iff] at h ⊢
    obtain ⟨t', h, hv⟩ := h
    rw [setTok_tok? hI.lenT (tok?_lt ht)] at h
    by_cases hj : j = k
    · subst hj; rw [if_pos rfl] at h; cases h; exact ⟨t, ht, hv⟩
    · rw [if_neg hj] at h; exact ⟨t', h, hv⟩
  tok := fun j t1 t' hj h1 h' _ => by
    refine ⟨fun _ _ _ h => h, .inl ⟨rfl, ?_⟩⟩
    rw [setTok_tok? hI.lenT (tok?_lt ht)] at h'
    by_cases hjk : j = k
    · subst hjk; rw [if_pos rfl] at h'; cases h'
      obtain rfl := Option.some.inj (ht.symm.trans h1)
      exact Nat.le_refl _
    · rw [if_neg hjk, h1] at h'; cases h'; exact Nat.le_refl _

theorem Inv.pubd : Inv CR (g.pubd k n) (s.setTok k { t with pub := max t.pub n }) w where
  lenB := hI.lenB
  lenT := by simp [St.setTok, hI.lenT]
  base := hI.base
  fresh := fun b hb => by
    have := hI.tlt k t ht
    simp only [G.pubd]; rw [if_neg (by omega)]; exact hI.fresh b hb
  lt := hI.lt
  pr := fun id B hb hf => by
    simp only [G.pubd]; rw [if_neg (hI.btk id B k t hb (live_of hf) ht)]; exact hI.pr id B hb hf
  box := fun id b hb => (hI.box id b hb).mono (Le.pubd hI ht hn) rfl
  inj := hI.inj
  tlt := tlt_set hI ht
  tok := fun j t' h => by
    rw [setTok_tok? hI.lenT (tok?_lt ht)] at h
    by_cases hj : j = k
    · subst hj; rw [if_pos rfl] at h; cases h
      have h0 := hI.tok j t ht
      obtain ⟨arr, T, fr, r1, r2, r3, r4⟩ := h0.row
      have hm : t.pub * (g.tk j).es ≤ max t.pub n * (g.tk j).es := Nat.mul_le_mul_right _ (Nat.le_max_left _ _)
      have hm2 : n * (g.tk j).es ≤ max t.pub n * (g.tk j).es := Nat.mul_le_mul_right _ (Nat.le_max_right _ _)
      refine { base := h0.base, es := h0.es, prot := ?_, pub := ?_, cap := h0.cap, row := ⟨arr, T, fr, r1, r2, fun x hx hx2 => r3 x (by simp only [G.pubd] at hx ⊢; omega) hx2, fun T' hT => ⟨(r4 T' hT).1, by have := (r4 T' hT).2; simp only [G.pubd]; omega⟩⟩ }
      · have := h0.prot
        simp only [G.pubd, if_pos]; omega
      · have := h0.pub; simp only; omega
    · rw [if_neg hj] at h
      have h0 := hI.tok j t' h
      have hne : (g.tk j).blk ≠ (g.tk k).blk := fun he => hj (hI.tinj j k _ _ h ht he)
      refine { h0 with prot := ?_ }
      simp only [G.pubd]; rw [if_neg hne]; exact h0.prot
  tall := hI.tall
  tinj := tinj_set hI ht
  btk := btk_set hI ht
end pub

/-! ### A slice is cut short, and nobody has been handed what is cut off -/
section pop
variable {k : Nat} {t : Tok} (hI : Inv CR g s w) (ht : s.tok? k = some t) {n : Nat} (hn : n ≤ t.front) (hp : t.pub ≤ n)
include hI ht

theorem Le.pop : Le g s w g (s.setTok k ⟨n, t.ver + 1, t.pub, t.ty⟩) w where
  io := ⟨rfl, rfl⟩
  own := fun _ _ h => h
  frame := fun _ _ _ => ⟨rfl, rfl⟩
  base := rfl
  size := Nat.le_refl _
  low := fun _ _ => rfl
  prot := fun b => Nat.le_refl _
  cell := fun _ _ _ _ hc => hc
  dfr := fun _ hb => hb
  nb := Nat.le_refl _
  bx := fun _ _ => rfl
  nt := Nat.le_refl _
  has := fun j v t' hk h => by
    rw [setTok_tok? hI.lenT (tok?_lt ht)] at h
    by_cases hj : j = k
    · subst hj; rw [if_pos rfl] at h; cases h; have := hk.2 t ht; simp only; omega
    · rw [if_neg hj] at h; exact hk.2 _ h
  ok := fun j v hk h => by
    rw [ok_iff] at h ⊢
    obtain ⟨t', h, hv⟩ := h
    rw [setTok_tok? hI.lenT (tok?_lt ht)] at h
    by_cases hj : j = k
    · subst hj; rw [if_pos rfl] at h; cases h
      have := hk.2 t ht; simp only at hv; omega
    · rw [if_neg hj] at h; exact ⟨t', h, hv⟩
  tok := fun j t1 t' hj h1 h' hv => by
    refine ⟨fun _ _ _ h => h, .inl ⟨rfl, ?_⟩⟩
    rw [setTok_tok? hI.lenT (tok?_lt ht)] at h'
    by_cases hjk : j = k
    · subst hjk; rw [if_pos rfl] at h'; cases h'
      obtain rfl := Option.some.inj (ht.symm.trans h1)
      simp only at hv; omega
    · rw [if_neg hjk, h1] at h'; cases h'; exact Nat.le_refl _

include hn hp in
theorem Inv.pop : Inv CR g (s.setTok k ⟨n, t.ver + 1, t.pub, t.ty⟩) w where
  lenB := hI.lenB
  lenT := by simp [St.setTok, hI.lenT]
  base := hI.base
  fresh := hI.fresh
  lt := hI.lt
  pr := hI.pr
  box := fun id b hb => (hI.box id b hb).mono (Le.pop hI ht) rfl
  inj := hI.inj
  tlt := tlt_set hI ht
  tok := fun j t' h => by
    rw [setTok_tok? hI.lenT (tok?_lt ht)] at h
    by_cases hj : j = k
    · subst hj; rw [if_pos rfl] at h; cases h
      have h0 := hI.tok j t ht
      have := h0.cap
      exact { base := h0.base, es := h0.es, prot := h0.prot, pub := hp, cap := by simp only; omega, row := h0.row }
    · rw [if_neg hj] at h
      exact hI.tok j t' h
  tall := hI.tall
  tinj := tinj_set hI ht
  btk := btk_set hI ht
end pop

/-! ### A slice grows where it lies -/
section grow
variable {k : Nat} {t : Tok} (hI : Inv CR g s w) (ht : s.tok? k = some t) {m : Nat} {arr arr' : Array Value} {T : Nat} {fr : Nat × Nat}
  (hsz : w'.heap.size = w.heap.size) (hio : w'.os = w.os ∧ w'.output = w.output) (hh : ∀ b, b ≠ (g.tk k).blk → w'.heap[b]? = w.heap[b]?)
  (h0 : w.heap[(g.tk k).blk]? = some (.cells arr T fr)) (h1 : w'.heap[(g.tk k).blk]? = some (.cells arr' T fr)) (hs : arr'.size = arr.size)
  (hold : ∀ x : Nat, x < t.front * (g.tk k).es → arr'[x]? = arr[x]?)
include hI ht hsz hio hh h0 h1 hold

theorem Le.grow : Le g s w g (s.setTok k { t with front := t.front + m }) w' where
  io := hio
  own := fun _ _ h => h
  frame := fun b _ ho => ⟨hh b fun he => ho (.inr ⟨k, tok?_lt ht, he.symm⟩), rfl⟩
  base := rfl
  size := by omega
  low := fun b hb => hh b (by have := (hI.tok k t ht).base; omega)
  prot := fun b => Nat.le_refl _
  cell := fun b off v hsafe hc => by
    by_cases hb : b = (g.tk k).blk
    · subst hb
      have hT := hI.tok k t ht
      have hpf : t.pub * (g.tk k).es ≤ t.front * (g.tk k).es := Nat.mul_le_mul_right _ hT.pub
      have := hT.prot; have := hT.base
      have hlt : off < t.front * (g.tk k).es := by rcases hsafe with hs | hs <;> omega
      simp only [World.cell?, h0] at hc
      simp only [World.cell?, h1, hold off hlt]
      exact hc
    · simp only [World.cell?, hh b hb] at hc ⊢; exact hc
  dfr := fun b hb => by
    rw [hh b (fun he => by rw [he, h0] at hb; cases hb)]; exact hb
  nb := Nat.le_refl _
  bx := fun _ _ => rfl
  nt := Nat.le_refl _
  has := fun j v t' hk h => by
    rw [setTok_tok? hI.lenT (tok?_lt ht)] at h
    by_cases hj : j = k
    · subst hj; rw [if_pos rfl] at h; cases h; exact hk.2 t ht
    · rw [if_neg hj] at h; exact hk.2 _ h
  ok := fun j v hk h => by
    rw [ok_iff] at h ⊢
    obtain ⟨t', h, hv⟩ := h
    rw [setTok_tok? hI.lenT (tok?_lt ht)] at h
    by_cases hj : j = k
    · subst hj; rw [if_pos rfl] at h; cases h; exact ⟨t, ht, hv⟩
    · rw [if_neg hj] at h; exact ⟨t', h, hv⟩
  tok := fun j t1 t' hj h2 h' _ => by
    rw [setTok_tok? hI.lenT (tok?_lt ht)] at h'
    by_cases hjk : j = k
    · subst hjk; rw [if_pos rfl] at h'; cases h'
      obtain rfl := Option.some.inj (ht.symm.trans h2)
      refine ⟨fun off x hlt hc => ?_, .inl ⟨rfl, by simp only; omega⟩⟩
      simp only [World.cell?, h0] at hc
      simp only [World.cell?, h1, hold off hlt]
      exact hc
    · rw [if_neg hjk, h2] at h'; cases h'
      refine ⟨fun off x hlt hc => ?_, .inl ⟨rfl, Nat.le_refl _⟩⟩
      have hne : (g.tk j).blk ≠ (g.tk k).blk := fun he => hjk (hI.tinj j k _ _ h2 ht he)
      simp only [World.cell?, hh _ hne] at hc ⊢; exact hc

include hs in
theorem Inv.grow (hm : t.front + m ≤ (g.tk k).cap) : Inv CR g (s.setTok k { t with front := t.front + m }) w' where
  lenB := hI.lenB
  lenT := by simp [St.setTok, hI.lenT]
  base := by rw [hsz]; exact hI.base
  fresh := by rw [hsz]; exact hI.fresh
  lt := by rw [hsz]; exact hI.lt
  pr := hI.pr
  box := fun id b hb => by
    cases hl : b.live with
    | false => cases b <;> simp [Box.live] at hl; trivial
    | true => exact (hI.box id b hb).mono (Le.grow hI ht hsz hio hh h0 h1 hold) (hh _ (hI.btk id b k t hb hl ht))
  inj := hI.inj
  tlt := by rw [hsz]; exact tlt_set hI ht
  tok := fun j t' h => by
    rw [setTok_tok? hI.lenT (tok?_lt ht)] at h
    by_cases hj : j = k
    · subst hj; rw [if_pos rfl] at h; cases h
      have hT := hI.tok j t ht
      have := hT.pub
      obtain ⟨arr2, T2, fr2, r1, r2, r3, r4⟩ := hT.row
      rw [h0] at r1
      simp only [Option.some.injEq, Obj.cells.injEq] at r1
      obtain ⟨rfl, rfl, rfl⟩ := r1
      exact { base := hT.base, es := hT.es, prot := hT.prot, pub := by simp only; omega, cap := hm, row := ⟨arr', T, fr, h1, by omega, r3, r4⟩ }
    · rw [if_neg hj] at h
      exact (hI.tok j t' h).heap (hh _ (fun he => hj (hI.tinj j k _ _ h ht he)))
  tall := by rw [hsz]; exact hI.tall
  tinj := tinj_set hI ht
  btk := btk_set hI ht
end grow

/-! ### A slice grows in new memory -/
def G.moved (g : G) (w : World) (k front cap : Nat) : G :=
  { g with tk := fun j => if j = k then ⟨w.heap.size, (g.tk k).es, cap⟩ else g.tk j,
           prot := fun b => if b = (g.tk k).blk then max (g.prot b) (front * (g.tk k).es) else g.prot b }
section move
variable {k : Nat} {t : Tok} (hI : Inv CR g s w) (ht : s.tok? k = some t) {m cap : Nat} (hm : 1 ≤ m)
include hI ht hm

theorem Le.moved (o : Obj) : Le g s w (g.moved w k t.front cap) (s.setTok k { t with front := t.front + m }) (w.alloc o) where
  io := ⟨rfl, rfl⟩
  own := fun b hb ho => by
    rcases ho with ho | ⟨j, hj, he⟩
    · exact .inl ho
    · by_cases h : j = k
      · subst h; simp [G.moved] at he; omega
      · exact .inr ⟨j, hj, by simpa [G.moved, h] using he⟩
  frame := fun b hb ho => ⟨heap_alloc_old w o hb, by simp only [G.moved]; rw [if_neg fun he => ho (.inr ⟨k, tok?_lt ht, he.symm⟩)]⟩
  base := rfl
  size := by simp
  low := fun b hb => heap_alloc_old w o (Nat.lt_of_lt_of_le hb hI.base)
  prot := fun b => by simp only [G.moved]; split <;> omega
  cell := fun _ _ _ _ hc => cell?_alloc_some hc
  dfr := fun _ hb => heap_alloc_some hb
  nb := Nat.le_refl _
  bx := fun _ _ => rfl
  nt := Nat.le_refl _
  has := fun j v t' hk h => by
    rw [setTok_tok? hI.lenT (tok?_lt ht)] at h
    by_cases hj : j = k
    · subst hj; rw [if_pos rfl] at h; cases h; exact hk.2 t ht
    · rw [if_neg hj] at h; exact hk.2 _ h
  ok := fun j v hk h => by
    rw [ok_iff] at h ⊢
    obtain ⟨t', h, hv⟩ := h
    rw [setTok_tok? hI.lenT (tok?_lt ht)] at h
    by_cases hj : j = k
    · subst hj; rw [if_pos rfl] at h; cases h; exact ⟨t, ht, hv⟩
    · rw [if_neg hj] at h; exact ⟨t', h, hv⟩
  tok := fun j t1 t' hj h2 h' _ => by
    refine ⟨fun off x hlt hc => cell?_alloc_some hc, ?_⟩
    rw [setTok_tok? hI.lenT (tok?_lt ht)] at h'
    by_cases hjk : j = k
    · subst hjk; rw [if_pos rfl] at h'; cases h'
      obtain rfl := Option.some.inj (ht.symm.trans h2)
      refine .inr ⟨.inr ?_, by simp only; omega, by simp [G.moved]⟩
      simp only [G.moved, if_pos]; omega
    · rw [if_neg hjk, h2] at h'; cases h'
      exact .inl ⟨by simp [G.moved, hjk], Nat.le_refl _⟩

theorem Inv.moved (arr : Array Value) (T : Nat) (hty : ∀ T', t.ty = some T' → T = T') (hc : t.front + m ≤ cap) (hsz : cap * (g.tk k).es ≤ arr.size) :
    Inv CR (g.moved w k t.front cap) (s.setTok k { t with front := t.front + m }) (w.alloc (.cells arr T)) where
  lenB := hI.lenB
  lenT := by simp [St.setTok, hI.lenT]
  base := by have := hI.base; simp [G.moved]; omega
  fresh := fun b hb => by
    simp at hb
    have := hI.tlt k t ht
    simp only [G.moved]; rw [if_neg (by omega)]; exact hI.fresh b (by omega)
  lt := fun id hid => by
    obtain ⟨h1, h2⟩ := hI.lt id hid
    exact ⟨h1, by simp [G.moved]; omega⟩
  pr := fun id B hb hf => by
    simp only [G.moved]; rw [if_neg (hI.btk id B k t hb (live_of hf) ht)]; exact hI.pr id B hb hf
  box := fun id b hb => (hI.box id b hb).mono (Le.moved hI ht hm _) (heap_alloc_old w _ (hI.lt id (box?_lt hb)).2)
  inj := hI.inj
  tlt := fun j u hj => by
    obtain ⟨u', hj'⟩ := setTok_old hI ht hj
    simp only [G.moved, World.size_alloc]
    by_cases h : j = k
    · rw [if_pos h]; simp
    · rw [if_neg h]; have := hI.tlt j u' hj'; omega
  tok := fun j t' h => by
    rw [setTok_tok? hI.lenT (tok?_lt ht)] at h
    by_cases hj : j = k
    · subst hj; rw [if_pos rfl] at h; cases h
      have hT := hI.tok j t ht
      have := hT.pub
      have hlt := hI.tlt j t ht
      refine { base := ?_, es := ?_, prot := ?_, pub := by simp only; omega, cap := ?_, row := ?_ }
      · simp only [G.moved, if_pos]; exact hI.base
      · simp only [G.moved, if_pos]; exact hT.es
      · simp only [G.moved, if_pos]
        rw [if_neg (by omega), hI.fresh _ (Nat.le_refl _)]; exact Nat.zero_le _
      · simp only [G.moved, if_pos]; exact hc
      · simp only [G.moved, if_pos]
        exact ⟨arr, T, (0, 0), heap_alloc_new w _, hsz, fun x _ _ => by simp only; omega, fun T' hT => ⟨hty T' hT, Nat.zero_le _⟩⟩
    · rw [if_neg hj] at h
      have h0 := hI.tok j t' h
      have hlt := hI.tlt j t' h
      have hne : (g.tk j).blk ≠ (g.tk k).blk := fun he => hj (hI.tinj j k _ _ h ht he)
      rw [show (g.moved w k t.front cap).tk j = g.tk j by simp [G.moved, hj]]
      refine TokOk.heap (g := g.moved w k t.front cap) (heap_alloc_old w _ hlt) { h0 with prot := ?_ }
      simp only [G.moved]; rw [if_neg hne]; exact h0.prot
  tall := fun j hj => by
    simp only [G.moved, World.size_alloc]
    by_cases h : j = k
    · rw [if_pos h]; simp
    · rw [if_neg h]; have := hI.tall j hj; omega
  tinj := fun i j u v hi hj h => by
    obtain ⟨u', hi'⟩ := setTok_old hI ht hi
    obtain ⟨v', hj'⟩ := setTok_old hI ht hj
    simp only [G.moved] at h
    by_cases h1 : i = k <;> by_cases h2 : j = k
    · omega
    · rw [if_pos h1, if_neg h2] at h
      have := hI.tlt j v' hj'; simp at h; omega
    · rw [if_neg h1, if_pos h2] at h
      have := hI.tlt i u' hi'; simp at h; omega
    · rw [if_neg h1, if_neg h2] at h
      exact hI.tinj i j u' v' hi' hj' h
  btk := fun i B j u hB lb hj h => by
    obtain ⟨u', hj'⟩ := setTok_old hI ht hj
    simp only [G.moved] at h
    by_cases h1 : j = k
    · rw [if_pos h1] at h; have := (hI.lt i (box?_lt (s := s) hB)).2; simp at h; omega
    · rw [if_neg h1] at h; exact hI.btk i B j u' hB lb hj' h
end move

/-! ### A world with more memory -/
structure Grown (w w' : World) : Prop where
  os : w'.os = w.os
  output : w'.output = w.output
  size : w.heap.size ≤ w'.heap.size
  same : ∀ k, k < w.heap.size → w'.heap[k]? = w.heap[k]?

theorem Grown.cell (h : Grown w w') {a : Addr} {v : Value} (hc : w.cell? a = some v) : w'.cell? a = some v := by
  have hb := World.block_lt_of_cell? _ _ hc
  simp only [World.cell?, h.same _ hb]
  exact hc

theorem Le.grown (hI : Inv CR g s w) (h : Grown w w') : Le g s w g s w' where
  io := ⟨h.os, h.output⟩
  own := fun _ _ h => h
  frame := fun b hb _ => ⟨h.same b hb, rfl⟩
  base := rfl
  size := h.size
  low := fun b hb => h.same b (Nat.lt_of_lt_of_le hb hI.base)
  prot := fun _ => Nat.le_refl _
  cell := fun _ _ _ _ hc => h.cell hc
  dfr := fun b hb => by rw [h.same b (Array.getElem?_eq_some_iff.1 hb).1]; exact hb
  nb := Nat.le_refl _
  bx := fun _ _ => rfl
  nt := Nat.le_refl _
  has := fun _ _ _ hk h => hk.2 _ h
  ok := fun _ _ _ h => h
  tok := tokLe_same (fun _ => rfl) (fun _ _ _ _ _ _ hc => h.cell hc) (fun _ _ => rfl)

theorem Inv.grown (hI : Inv CR g s w) (h : Grown w w') : Inv CR g s w' where
  lenB := hI.lenB
  lenT := hI.lenT
  base := Nat.le_trans hI.base h.size
  fresh := fun b hb => hI.fresh b (Nat.le_trans h.size hb)
  lt := fun id hid => by obtain ⟨h1, h2⟩ := hI.lt id hid; exact ⟨h1, Nat.lt_of_lt_of_le h2 h.size⟩
  pr := hI.pr
  box := fun id B hb => (hI.box id B hb).mono (Le.grown hI h) (h.same _ (hI.lt id (box?_lt hb)).2)
  inj := hI.inj
  tlt := fun k t hk => Nat.lt_of_lt_of_le (hI.tlt k t hk) h.size
  tok := fun k t ht => (hI.tok k t ht).heap (h.same _ (hI.tlt k t ht))
  tall := fun k hk => Nat.lt_of_lt_of_le (hI.tall k hk) h.size
  tinj := hI.tinj
  btk := hI.btk
end Go.Proofs.YtfaodjpibdhdjaaDoor.Am
