/-
  Regions that draw their order: sound.
-/
import Derived.Test.YtfaodjpibdhdjaaDoorAmDraw4
set_option linter.all false
set_option linter.unusedVariables false
set_option linter.unusedSimpArgs false
set_option linter.unusedSectionVars false
set_option linter.constructorNameAsVariable false
namespace Go.Proofs.YtfaodjpibdhdjaaDoor.Am
section
variable {rd : Option Nat} {P : Program} {gt : Nat → Option (List AV)} {prog : Nat → Option Fun} {self : Self}

theorem rep_false {n j : Nat} : ¬ ((Array.replicate n false)[j]? = some true) := by
  rw [Array.getElem?_replicate]
  split <;> simp

theorem regD_ok (hS : SelfOk P gt self) (hN : NamesOk P) (hX : Ctx P gt prog) {pop : Bool × Nat × String} {n id : Nat} {ops : Array Oper} {cl : List Op} (hcl : compOps P gt pop n ops ops.toList = some cl) {wins : List (Nat × Nat × Nat)} (hd : drawOk ops cl wins = true)
    {e e' : Tr} {s s' : St} (h : evD self cl wins e s = some (e', s')) {g : G} {w : World} {a : Act} (hI : Inv (CRof P gt) g s w) (hG : GT gt g w) (hT : VT g s w e a.tmps) (hz : a.tmps.size = n) (hn : n < 1000) (hm : P.follows .mixedOrders = true)
    {Q : Exit → Act → World → Prop} (hQ : ∀ a' w', OpsPost P gt g s w a e' s' a' w' → Q .normal a' w') : (Code.region id ops true).wpIn (fence rd) 0 P Q a w := by
  unfold drawOk at hd
  rw [Bool.and_eq_true, Bool.and_eq_true] at hd
  obtain ⟨⟨hb, hall⟩, hsane⟩ := hd
  obtain ⟨hlen, hget⟩ := compOps_get hcl
  unfold evD at h
  split at h <;> try (cases h; done)
  rename_i tr htr
  split at h <;> try (cases h; done)
  rename_i hchk
  obtain ⟨E, S, e0, s0, hstep, htrace, hlast⟩ := traceD_split htr
  rw [hlast] at h
  have hes := Option.some.inj h
  have e1 : E cl.length = e' := congrArg Prod.fst hes
  have s1 : S cl.length = s' := congrArg Prod.snd hes
  have hwins := chkD_spec htrace hsane hchk
  have hcan : Canon self cl E S (predsGo ops.toList []) (winF wins) := by
    refine ⟨hstep, fun i c d hc hcd => ?_, fun i j o p hij ho hp => ?_, fun i c hc hcls => ?_, fun i hi => ?_⟩
    · have hi := (List.getElem?_eq_some_iff.1 hc).1
      obtain ⟨c', k1, k2, _, k4, _⟩ := hget i _ (List.getElem?_eq_getElem (by omega))
      rw [hc] at k1; cases k1
      rw [← k2, hcd] at k4
      have : d < n := by simpa [dstOk, Nat.blt_eq] using k4
      omega
    · have := drawAll_spec hall i j o p hij ho hp
      simpa using this
    · rcases winF_mem (wins := wins) (i := i) with hw | hw
      · intro hwt v s2 hv k hk1 hk2
        rw [hw] at hk1 hk2
        have : k = i := by simp only at hk1 hk2; omega
        subst this
        refine ⟨?_, s2, hv⟩
        rcases evD1_cases (hstep k c hc) with ⟨_, hq, _⟩ | ⟨hwf, _⟩
        · rcases hq with hq | hq
          · omega
          · exact hq
        · rw [hwt] at hwf; cases hwf
      · exact hwins _ hw c hc
    · rcases winF_mem (wins := wins) (i := i) with hw | hw
      · rw [hw]; simp only; omega
      · have := List.all_eq_true.1 hsane _ hw
        simp only [Bool.and_eq_true] at this
        have h1 := Nat.le_of_ble_eq_true this.1
        have h2 := Nat.le_of_ble_eq_true this.2.1
        have h3 := Nat.le_of_ble_eq_true this.2.2
        exact ⟨h1, h2, h3⟩
  subst e1 s1
  refine wpIn_region_any hm (anyD hS hN hX hcl hb hcan hz hG hQ ops.size _ _ _ (by simp) ?_ ?_)
  · unfold cnt
    exact Nat.le_trans List.countP_le_length (by simp)
  · have hI' : Inv (CRof P gt) g s { w with drawn := w.drawn + 1 } := Inv.heap (w := w) rfl hI
    have hL' : Le g s w g s { w with drawn := w.drawn + 1 } := Le.heap (w := w) rfl
    refine ⟨⟨g, e, s, hI', hL', VT_mono hL' hT, Esc.refl _, ?_⟩, rfl, rfl, fun j hj => absurd hj rep_false⟩
    refine ⟨fun t j c hL => absurd hL rep_false, fun t _ => by rw [e0], fun k hk hh => ?_⟩
    rw [← s0]
    refine (hcan.state (Nat.zero_le _) hk fun j c _ hlt hc hj => ?_).symm
    exact absurd ((hh j c hc hj).1 hlt) rep_false
end
end Go.Proofs.YtfaodjpibdhdjaaDoor.Am
