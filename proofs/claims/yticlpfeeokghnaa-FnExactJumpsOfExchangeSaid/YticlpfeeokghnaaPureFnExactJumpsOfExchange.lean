/- For all numbers of toads and frogs the program's JumpsOfExchange is the reference's. -/
import Derived.Test.YticlpfeeokghnaaPFnExactJumpsOfExchangex1
set_option linter.unusedVariables false
set_option linter.unusedSimpArgs false
namespace Go.Proofs.Yticlpfeeokghnaa.PureJumpsOfExchange
open Go Go.RowKit Go.Proofs.Yticlpfeeokghnaa.PFnExactJumpsOfExchange Go.Proofs.YticlpfeeokghnaaW.PrintWords Go.Proofs.YticlpfeeokghnaaW.PrintLast

theorem l1In_eq (a b c : Int) : spec_l1In.f a b c = some (decide (b ≤ a) && decide (a ≤ c)) := by
  unfold spec_l1In.f
  by_cases h : b ≤ a <;> simp [h]
theorem within_eq (a b c : Int) : impl_within.f a b c = some (decide (b ≤ a) && decide (a ≤ c)) := by
  unfold impl_within.f
  by_cases h : b ≤ a <;> simp [h]
theorem law_two (x y : Option (Int × Bool)) (r : Int × Bool) (hx : x = some r) (hy : y = some r) :
    (x.bind fun p => (y.bind fun q => (if q.1 = p.1 then (if (q.2 != p.2) = true then (some false) else (some true)) else (some false)))) = some true := by
  subst hx; subst hy; simp
theorem all_two (a b lo hi : Int) : spec_l1All.f 4 [a, b] lo hi = some ((decide (lo ≤ a) && decide (a ≤ hi)) && (decide (lo ≤ b) && decide (b ≤ hi))) := by
  have e1 : wrap64 (0 + 1) = 1 := by unfold wrap64; omega
  have e2 : wrap64 (1 + 1) = 2 := by unfold wrap64; omega
  have r0 : rd [a, b] 0 = a := rfl
  have r1 : rd [a, b] 1 = b := rfl
  unfold spec_l1All.f
  simp only [spec_l1All.l0, List.length_cons, List.length_nil, l1In_eq, Option.bind_some, e1, e2, r0, r1]
  cases h1 : (decide (lo ≤ a) && decide (a ≤ hi)) <;> cases h2 : (decide (lo ≤ b) && decide (b ≤ hi)) <;> simp

theorem FnExactJumpsOfExchange : laws_FnExactJumpsOfExchange.Pure := by
  intro a b _ _
  refine ⟨4, ?_⟩
  have hi : impl_JumpsOfExchange.f a b = spec_JumpsOfExchange.f 4 a b := by
    unfold impl_JumpsOfExchange.f spec_JumpsOfExchange.f
    rw [all_two]
    simp only [within_eq, Option.bind_some]
    cases h1 : (decide (0 ≤ a) && decide (a ≤ 8)) <;> cases h2 : (decide (0 ≤ b) && decide (b ≤ 8)) <;> simp
  have hs : ∃ r, spec_JumpsOfExchange.f 4 a b = some r := by
    unfold spec_JumpsOfExchange.f
    rw [all_two]
    simp only [Option.bind_some]
    split
    · split <;> exact ⟨_, rfl⟩
    · exact ⟨_, rfl⟩
  obtain ⟨r, hr⟩ := hs
  unfold laws_FnExactJumpsOfExchange.f
  exact law_two _ _ r hr (hi.trans hr)

end Go.Proofs.Yticlpfeeokghnaa.PureJumpsOfExchange

namespace Go.Proofs.Yticlpfeeokghnaa.Pure
open Go Go.RowKit Go.Proofs.Yticlpfeeokghnaa.PFnExactJumpsOfExchange

theorem FnExactJumpsOfExchange : laws_FnExactJumpsOfExchange.Pure := PureJumpsOfExchange.FnExactJumpsOfExchange

end Go.Proofs.Yticlpfeeokghnaa.Pure
