/-
  An argument that can be read, as a value of the abstract machine.
-/
import Derived.Test.YtfaodjpibdhdjaaDoorAmLaw
import Derived.SliceStrings
import Derived.WideShapes
import Derived.ProofKit
set_option linter.all false
set_option linter.unusedVariables false
set_option linter.unusedSimpArgs false
set_option linter.unusedSectionVars false
set_option linter.constructorNameAsVariable false
namespace Go.Proofs.YtfaodjpibdhdjaaDoor.Am
open Go.ChangeShapes Go.WideShapes
section
variable {P : Program} {W : World} {H : Type} {enc : TypeId × Value → H}

def lsOf (s : ByteArray) : List Nat := s.data.toList.map UInt8.toNat

theorem lsOf_len (s : ByteArray) : (lsOf s).length = s.size := by rw [lsOf, List.length_map]; rfl
theorem lsOf_lt (s : ByteArray) : ∀ n ∈ lsOf s, n < 256 := by
  intro n hn
  simp only [lsOf, List.mem_map] at hn
  obtain ⟨a, _, rfl⟩ := hn
  exact UInt8.toNat_lt a
theorem bytes_lsOf (s : ByteArray) : bytesOf (lsOf s) = s := by
  cases s with
  | mk d => simp [bytesOf, lsOf, Function.comp_def]
theorem V_str (g : G) (s : St) (w : World) (x : ByteArray) : V g s w (.s (lsOf x)) (.string x) := by
  simp only [V]
  exact ⟨by rw [bytes_lsOf], lsOf_lt x⟩

/-- A text that can be read. -/
structure Txt (l : List Nat) : Prop where
  lt : ∀ n ∈ l, n < 256
  len : l.length < 2 ^ 63

theorem txt_of {x : ByteArray} (h : x.size ≤ maxLen) : Txt (lsOf x) := ⟨lsOf_lt x, by rw [lsOf_len]; simp only [maxLen] at h; omega⟩

theorem read_string1 {t : TypeId} {v : Value} {d : DataW H} {ps : List MemPlace} {base : Nat} (ht : P.underlying t = some .string) (hv : Value.okWide P W .any base t v) (h : DataW.Trod enc P W 0 (fun _ => true) true t v d ps) :
    ∃ l, V (g0 W) s0 W (.s l) v ∧ Txt l := by
  obtain ⟨fuel, hf⟩ := h
  obtain ⟨x, rfl⟩ := okWide_string ht hv
  have hf : DataW.trod enc P W 0 (fun _ => true) true fuel t [.string x] = some (d, ps) := by simpa [Value.cells] using hf
  obtain ⟨s, hs, _, hw⟩ := DataW.trod_string ht hf
  obtain rfl : x = s := by simpa using hs
  exact ⟨lsOf x, V_str _ _ _ x, txt_of hw⟩

theorem read_strings {t e : TypeId} {v : Value} {d : DataW H} {ps : List MemPlace} {base : Nat} (ht : P.underlying t = some (.slice e)) (he : P.underlying e = some .string) (hce : P.cellsOf e = 1)
    (hv : Value.okWide P W .any base t v) (h : DataW.Trod enc P W 0 (fun _ => true) true t v d ps) :
    ∃ L : List (List Nat), V (g0 W) s0 W (.ws false 1 (L.map .s)) v ∧ L.length < 2 ^ 63 ∧ ∀ l ∈ L, Txt l := by
  obtain ⟨a0, len, cap, rfl⟩ := okWide_slice ht hv
  obtain ⟨fuel, hf⟩ := h
  have hf' : DataW.trod enc P W 0 (fun _ => true) true fuel t [.slice a0 len cap] = some (d, ps) := by simpa [Value.cells] using hf
  rcases open_strings ht he hce hf' with ⟨hcs, hx⟩ | ⟨a, len', cap', ss, hcs, _, hl, hm, hz, hx, hcell, hsz⟩
  · simp only [List.cons.injEq, Value.slice.injEq, and_true] at hcs
    obtain ⟨rfl, rfl, rfl⟩ := hcs
    exact ⟨[], V_wsnil (by simp [V]), by simp, by simp⟩
  · simp only [List.cons.injEq, Value.slice.injEq, and_true] at hcs
    obtain ⟨rfl, rfl, rfl⟩ := hcs
    have hok : len ≤ cap ∧ (cap : Int) ≤ IntKind.i64.max ∧ W.has P .any base a e cap := by
      simpa [Value.okWide, Cell.okWide, Cell.ok, ht] using hv
    obtain ⟨_, hsp, row, cells, hsh, _⟩ := hok.2.2
    obtain ⟨b, o, sp⟩ := a
    simp only at hsp hsh
    subst hsp
    have hb : b < W.heap.size := by
      simp only [World.shape?] at hsh
      split at hsh
      · rename_i hh; exact (Array.getElem?_eq_some_iff.1 hh).1
      · cases hsh
    simp only [if_true] at hz
    refine ⟨(ss.take len).map lsOf, ?_, ?_, ?_⟩
    · rw [V_ws]
      right; right
      simp only [V]
      refine ⟨b, o, cap, (ss.take len).map .string, ?_, ⟨Nat.le_refl _, ?_⟩, ?_, capM_ok.2, fun _ => ⟨?_, ?_, ?_, ?_⟩⟩
      · simp only [List.length_map, List.length_take]; rw [Nat.min_eq_left (by omega)]
      · simp; omega
      · generalize ss.take len = l
        induction l with
        | nil => rfl
        | cons x l ih => exact (by simp only [List.map_cons, allLen, Bool.and_eq_true]; exact ⟨by simp [ones, AV.cells], ih⟩)
      · generalize ss.take len = l
        induction l with
        | nil => simp [VL]
        | cons x l ih => exact ⟨_, _, rfl, V_str _ _ _ x, ih⟩
      · intro j v hj
        have hfl : flat ((ss.take len).map Value.string) = (ss.take len).map Value.string := by
          generalize ss.take len = l
          induction l with
          | nil => rfl
          | cons x l ih => simpa [flat, Value.cells] using ih
        rw [hfl] at hj
        have hjl : j < len := by
          have := (List.getElem?_eq_some_iff.1 hj).1
          simp at this; omega
        have h1 := hcell j (by omega)
        have h2 : v = .string (ss.getD j ByteArray.empty) := by
          have := hj
          rw [List.getElem?_map, List.getElem?_take_of_lt hjl, List.getElem?_eq_getElem (by omega)] at this
          simp only [Option.map_some, Option.some.injEq] at this
          rw [← this]
          simp [List.getD, List.getElem?_eq_getElem (show j < ss.length by omega)]
        rw [h2, ← h1]
        simp only [Addr.add]
        by_cases hj0 : j = 0 <;> simp [hj0]
      · exact .inl hb
      · simp only [capM, CapIs]
        simp; omega
    · simp only [List.length_map, List.length_take]
      simp only [maxLen] at hm
      omega
    · intro l hl'
      simp only [List.mem_map] at hl'
      obtain ⟨s, hs, rfl⟩ := hl'
      exact txt_of (hsz s (List.mem_of_mem_take hs))
end
end Go.Proofs.YtfaodjpibdhdjaaDoor.Am
