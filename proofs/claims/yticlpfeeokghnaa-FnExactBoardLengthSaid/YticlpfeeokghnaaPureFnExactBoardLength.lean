/- For all halves wide and high the program's BoardLength is the reference's. -/
import Derived.Test.YticlpfeeokghnaaPFnExactBoardLengthx1
set_option linter.unusedVariables false
set_option linter.unusedSimpArgs false
namespace Go.Proofs.Yticlpfeeokghnaa.PureBoardLength
open Go Go.RowKit Go.Proofs.Yticlpfeeokghnaa.PFnExactBoardLength Go.Proofs.YticlpfeeokghnaaW.PrintWords Go.Proofs.YticlpfeeokghnaaW.PrintLast

theorem l1In_eq (a b c : Int) : spec_l1In.f a b c = some (decide (b ≤ a) && decide (a ≤ c)) := by
  unfold spec_l1In.f
  by_cases h : b ≤ a <;> simp [h]
theorem within_eq (a b c : Int) : impl_within.f a b c = some (decide (b ≤ a) && decide (a ≤ c)) := by
  unfold impl_within.f
  by_cases h : b ≤ a <;> simp [h]
theorem law_two (x y : Option (Int × Bool)) (r : Int × Bool) (hx : x = some r) (hy : y = some r) :
    (x.bind fun p => (y.bind fun q => (if q.1 = p.1 then (if (q.2 != p.2) = true then (some false) else (some true)) else (some false)))) = some true := by
  subst hx; subst hy; simp

theorem FnExactBoardLength : laws_FnExactBoardLength.Pure := by
  intro a b _ _
  have hi : impl_BoardLength.f a b = spec_BoardLength.f a b := by
    unfold impl_BoardLength.f spec_BoardLength.f impl_areHalves.f spec_boHalves.f
    simp only [l1In_eq, within_eq, Option.bind_some]
  have hs : ∃ r, spec_BoardLength.f a b = some r := by
    have hh : ∃ t, spec_boHalves.f a b = some t := by
      unfold spec_boHalves.f
      rw [l1In_eq, l1In_eq]
      simp only [Option.bind_some]
      split <;> exact ⟨_, rfl⟩
    obtain ⟨t, ht⟩ := hh
    unfold spec_BoardLength.f
    rw [ht]
    cases t <;> exact ⟨_, rfl⟩
  obtain ⟨r, hr⟩ := hs
  unfold laws_FnExactBoardLength.f
  exact law_two _ _ r hr (hi.trans hr)

end Go.Proofs.Yticlpfeeokghnaa.PureBoardLength

namespace Go.Proofs.Yticlpfeeokghnaa.Pure
open Go Go.RowKit Go.Proofs.Yticlpfeeokghnaa.PFnExactBoardLength

theorem FnExactBoardLength : laws_FnExactBoardLength.Pure := PureBoardLength.FnExactBoardLength

end Go.Proofs.Yticlpfeeokghnaa.Pure
