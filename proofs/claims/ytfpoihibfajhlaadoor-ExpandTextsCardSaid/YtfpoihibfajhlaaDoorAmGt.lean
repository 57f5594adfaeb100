/-
  Package-level tables of integers: from a card's own condition (laidMet) to what the abstract machine knows of them (GT).
-/
import Derived.Test.YtfpoihibfajhlaaDoorAmLaw
import Derived.Lib.LaidTab
set_option linter.all false
set_option linter.unusedVariables false
set_option linter.unusedSimpArgs false
set_option linter.unusedSectionVars false
namespace Go.Proofs.YtfpoihibfajhlaaDoor.Am
open Go

theorem tabIs_of_vars {P : Program} {W : World} {name : String} {k : IntKind} {zs : List Int} {g : Nat} {t e : TypeId} {n : Nat}
    (hg : P.globalNamed name = some g) (hty : (P.globals[g]?).map (·.type) = some t) (ht : P.underlying t = some (.array n e)) (he : P.underlying e = some (.int k)) (hce : P.cellsOf e = 1) (hct : P.cellsOf t = n) :
    ∀ {l : List (String × DataW Unit)} {ps : List MemPlace}, l.find? (fun x => x.1 == name) = some (name, Lib.tabData k zs) → DataW.LaidVars P W l ps → Lib.TabIs P W name k zs
  | [], _, h, _ => by simp at h
  | (m, d) :: r, ps, h, hl => by
    obtain ⟨g', t', cs, fuel, p, q, hg', ht', hvar, hd, hr, _⟩ := hl
    rw [List.find?_cons] at h
    cases hm : m == name with
    | false =>
      rw [show ((m, d).fst == name) = false from hm] at h
      exact tabIs_of_vars hg hty ht he hce hct h hr
    | true =>
      rw [show ((m, d).fst == name) = true from hm] at h
      simp only [Option.some.injEq, Prod.mk.injEq] at h
      obtain ⟨rfl, rfl⟩ := h
      obtain rfl := Option.some.inj (hg.symm.trans hg')
      obtain rfl := Option.some.inj (hty.symm.trans ht')
      unfold Lib.TabIs
      rw [hvar, ← Lib.cells_of_tab ht he hce hct hd]

theorem tabIs_of_laid {P : Program} {W : World} {name : String} {k : IntKind} {zs : List Int} {g : Nat} {t e : TypeId} {n : Nat} {l : List (String × DataW Unit)}
    (hg : P.globalNamed name = some g) (hty : (P.globals[g]?).map (·.type) = some t) (ht : P.underlying t = some (.array n e)) (he : P.underlying e = some (.int k)) (hce : P.cellsOf e = 1) (hct : P.cellsOf t = n)
    (hf : l.find? (fun x => x.1 == name) = some (name, Lib.tabData k zs)) (h : laidMet P l W) : Lib.TabIs P W name k zs := by
  obtain ⟨ps, hl, _⟩ := h
  exact tabIs_of_vars hg hty ht he hce hct hf hl

theorem VL_ints {g : G} {s : St} {w : World} (k : IntKind) : ∀ zs : List Int, VL g s w (zs.map fun z => AV.i k z) (zs.map fun z => Value.int k z)
  | [] => by simp [VL]
  | z :: r => by
    have := VL_ints (g := g) (s := s) (w := w) k r
    simp only [List.map_cons, VL]
    exact ⟨_, _, rfl, by simp [V], this⟩

theorem gt_tab {P : Program} {W : World} {name : String} {k : IntKind} {zs : List Int} {i : Nat} (h : Lib.TabIs P W name k zs) (hg : P.globalNamed name = some i) (hz : 0 < zs.length) :
    i < (g0 W).base ∧ ∃ cs, (∀ g s w, VL g s w (zs.map fun z => AV.i k z) cs) ∧ cellsAt W i 0 cs ∧ ∃ row a b, W.heap[i]? = some (.cells row a b) ∧ row.toList = cs := by
  refine ⟨?_, zs.map fun z => Value.int k z, fun g s w => VL_ints k zs, ?_, ?_⟩
  · have := h.cell hg 0 hz
    show i < W.heap.size
    cases hb : W.heap[i]? with
    | none => simp [World.cell?, hb] at this
    | some o => exact (Array.getElem?_eq_some_iff.1 hb).1
  · intro j v hj
    have hj' : j < zs.length := by
      have := (List.getElem?_eq_some_iff.1 hj).1
      simpa using this
    rw [Nat.zero_add, h.cell hg j hj']
    simp [hj'] at hj
    simp [List.getD, hj', hj]
  · unfold Lib.TabIs World.var? at h
    rw [hg] at h
    simp only [Option.bind_some] at h
    split at h
    · rename_i cs a b hb
      cases h
      exact ⟨_, a, b, hb, rfl⟩
    · cases h
end Go.Proofs.YtfpoihibfajhlaaDoor.Am
