/- For all numbers of toads and frogs the program's ExchangeMoves is the reference's. -/
import Derived.Test.YticlpfeeokghnaaPFnExactExchangeMovesx1
set_option linter.unusedVariables false
set_option linter.unusedSimpArgs false
namespace Go.Proofs.Yticlpfeeokghnaa.PureExchangeMoves
open Go Go.RowKit Go.Proofs.Yticlpfeeokghnaa.PFnExactExchangeMoves Go.Proofs.YticlpfeeokghnaaW.PrintWords Go.Proofs.YticlpfeeokghnaaW.PrintLast

theorem l1In_eq (a b c : Int) : spec_l1In.f a b c = some (decide (b ≤ a) && decide (a ≤ c)) := by
  unfold spec_l1In.f
  by_cases h : b ≤ a <;> simp [h]
theorem within_eq (a b c : Int) : impl_within.f a b c = some (decide (b ≤ a) && decide (a ≤ c)) := by
  unfold impl_within.f
  by_cases h : b ≤ a <;> simp [h]
theorem law_two (x y : Option (Int × Bool)) (r : Int × Bool) (hx : x = some r) (hy : y = some r) :
    (x.bind fun p => (y.bind fun q => (if q.1 = p.1 then (if (q.2 != p.2) = true then (some false) else (some true)) else (some false)))) = some true := by
  subst hx; subst hy; simp

theorem FnExactExchangeMoves : laws_FnExactExchangeMoves.Pure := by
  intro a b _ _
  have hi : impl_ExchangeMoves.f a b = spec_ExchangeMoves.f a b := by
    unfold impl_ExchangeMoves.f spec_ExchangeMoves.f impl_areTwo.f spec_woTwo.f
    simp only [l1In_eq, within_eq, Option.bind_some]
    by_cases h1 : 1 ≤ a <;> by_cases h2 : 1 ≤ b <;> by_cases h3 : a ≤ 9 <;> by_cases h4 : b ≤ 9 <;> simp [h1, h2, h3, h4]
    · have hw : wrap64 (a + b) = a + b := by unfold wrap64; omega
      rw [hw]
      by_cases h5 : a + b ≤ 9
      · have h6 : a ≤ 8 := by omega
        have h7 : b ≤ 8 := by omega
        simp [h5, h6, h7]
      · by_cases h6 : a ≤ 8 <;> by_cases h7 : b ≤ 8 <;> simp [h5, h6, h7]
    all_goals
      by_cases h6 : a ≤ 8 <;> by_cases h7 : b ≤ 8 <;> simp [h6, h7] <;> omega
  have hs : ∃ r, spec_ExchangeMoves.f a b = some r := by
    have hh : ∃ t, spec_woTwo.f a b = some t := by
      unfold spec_woTwo.f
      rw [l1In_eq, l1In_eq]
      simp only [Option.bind_some]
      split
      · split <;> exact ⟨_, rfl⟩
      · exact ⟨_, rfl⟩
    obtain ⟨t, ht⟩ := hh
    unfold spec_ExchangeMoves.f
    rw [ht]
    cases t <;> exact ⟨_, rfl⟩
  obtain ⟨r, hr⟩ := hs
  unfold laws_FnExactExchangeMoves.f
  exact law_two _ _ r hr (hi.trans hr)

end Go.Proofs.Yticlpfeeokghnaa.PureExchangeMoves

namespace Go.Proofs.Yticlpfeeokghnaa.Pure
open Go Go.RowKit Go.Proofs.Yticlpfeeokghnaa.PFnExactExchangeMoves

theorem FnExactExchangeMoves : laws_FnExactExchangeMoves.Pure := PureExchangeMoves.FnExactExchangeMoves

end Go.Proofs.Yticlpfeeokghnaa.Pure
