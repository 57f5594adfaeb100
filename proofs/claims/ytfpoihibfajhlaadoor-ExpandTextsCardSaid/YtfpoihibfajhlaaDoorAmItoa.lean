/-
  strconv.Itoa, told by a contract.
-/
import Derived.Test.YtfpoihibfajhlaaDoorAmSound
import Derived.Lib.ItoaMem
import Derived.Lib.ItoaLen
import Derived.Lib.LaidTab
set_option linter.all false
set_option linter.unusedVariables false
set_option linter.unusedSimpArgs false
set_option linter.unusedSectionVars false
set_option linter.constructorNameAsVariable false
namespace Go.Proofs.YtfpoihibfajhlaaDoor.Am
variable {P : Program} {gt : Nat → Option (List AV)}

def itoaN (n : Int) : List Nat := (Lib.itoa n).map (·.toNat)
def primItoa : List AV → Option AV
  | [.i .i64 n] => if -9223372036854775808 ≤ n ∧ n ≤ 9223372036854775807 then some (.s (itoaN n)) else none
  | _ => none

theorem itoaN_lt {n : Int} {c : Nat} (h : c ∈ itoaN n) : c < 256 := by
  simp only [itoaN, List.mem_map] at h
  obtain ⟨x, _, rfl⟩ := h
  exact x.toNat_lt
theorem itoaN_len {n : Int} (h0 : -9223372036854775808 ≤ n) (h1 : n ≤ 9223372036854775807) : (itoaN n).length ≤ 21 := by
  simp only [itoaN, List.length_map]
  exact Lib.itoa_length_le n h0 h1
theorem bytesOf_itoaN (n : Int) : bytesOf (itoaN n) = ⟨(Lib.itoa n).toArray⟩ := by
  simp [bytesOf, itoaN, Function.comp_def]

theorem ints_inj {g : G} {s : St} {w : World} {k : IntKind} : ∀ {zs : List Int} {cs : List Value}, VL g s w (zs.map fun z => AV.i k z) cs → cs = zs.map fun z => Value.int k z
  | [], cs, h => by simpa [VL] using h
  | z :: zs, cs, h => by
    simp only [List.map_cons, VL, V] at h
    obtain ⟨v, vs, rfl, rfl, h⟩ := h
    rw [ints_inj h]; rfl

theorem primItoa_ok {f i : Nat} (hb : ∃ F b, P.funcs[f]? = some F ∧ F.body = some b) (hi : P.globalNamed "internal/strconv.uint64pow10" = some i) (hgt : gt i = some (Lib.pow10Tab.map fun z => AV.i .u64 z))
    (h : ∀ (n : Int), -9223372036854775808 ≤ n → n ≤ 9223372036854775807 → ∀ w : World, Lib.TabIs P w "internal/strconv.uint64pow10" .u64 Lib.pow10Tab →
      Calls P f #[.int .i64 n] w fun e w' => e = .returned (.string ⟨(Lib.itoa n).toArray⟩) ∧ ∃ k os, w' = Sort.grow (w.drewN k) os) : PrimOk P gt f primItoa := by
  refine ⟨hb, ?_⟩
  intro args r hr g s w vs hG hv
  unfold primItoa at hr
  split at hr <;> try (cases hr; done)
  rename_i n
  split at hr <;> try (cases hr; done)
  rename_i hn
  cases hr
  simp only [VL, V] at hv
  obtain ⟨v, _, rfl, rfl, rfl⟩ := hv
  obtain ⟨h1, cs, h2, _, row, a, b, h4, h5⟩ := hG i _ hgt
  have hcs := ints_inj (h2 g s w)
  have htab : Lib.TabIs P w "internal/strconv.uint64pow10" .u64 Lib.pow10Tab := by
    unfold Lib.TabIs World.var?
    rw [hi]
    simp only [Option.bind_some, h4]
    rw [← hcs, ← h5]
  refine (h n hn.1 hn.2 w htab).mono ?_
  rintro e w' ⟨rfl, k, os, rfl⟩
  refine ⟨_, rfl, fun g' s' w'' => ?_, ?_⟩
  · simp only [V]
    exact ⟨by rw [bytesOf_itoaN], fun c hc => itoaN_lt hc⟩
  · exact ⟨rfl, rfl, by simp [Sort.grow, World.drewN], fun k' hk => by
      simp only [Sort.grow, World.drewN]
      rw [Array.getElem?_append_left hk]⟩
end Go.Proofs.YtfpoihibfajhlaaDoor.Am
