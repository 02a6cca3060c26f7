/- FnExactWayToGo without Go: for every text that memory holds, the program's WayToGo is the reference's. -/
import Derived.Test.YtoaajkpcefgofaaDoorLAway
import Derived.Test.YtoaajkpcefgofaaDoorXA1
import Derived.Test.YtoaajkpcefgofaaDoorXA7
namespace Go.Proofs.YtoaajkpcefgofaaDoor.Pure
set_option linter.unusedVariables false
set_option linter.unusedSimpArgs false
open Go Go.RowKit Go.Proofs.YtoaajkpcefgofaaDoor.XA Go.Proofs.YtoaajkpcefgofaaDoorB
theorem FnExactWayToGo (a : ByteArray) (hs : a.size ≤ 140737488351232) : ∃ k, laws_FnExactWayToGo.f k a = some true := by
  refine ⟨100, ?_⟩
  unfold laws_FnExactWayToGo.f
  split
  · rfl
  have hr : ∃ r, spec_WayToGo.f 100 a = some r ∧ impl_WayToGo.f 100 a = some r := by
    unfold spec_WayToGo.f impl_WayToGo.f impl_IsLine.f
    rw [liGood_eq a hs 100 (by omega), show impl_isLineOf.f a 12 = some (isLine 12 a) from isLineOf_eq a 12 hs]
    simp only [Option.bind_some]
    cases hL : isLine 12 a with
    | false => exact ⟨_, rfl, rfl⟩
    | true =>
      simp only [if_true]
      rw [liWay_eq a hL 100 (by omega), impl_way_eq a hL 100 (by omega)]
      exact ⟨_, rfl, rfl⟩
  obtain ⟨r, h1, h2⟩ := hr
  exact law_two _ _ r h1 h2
end Go.Proofs.YtoaajkpcefgofaaDoor.Pure
