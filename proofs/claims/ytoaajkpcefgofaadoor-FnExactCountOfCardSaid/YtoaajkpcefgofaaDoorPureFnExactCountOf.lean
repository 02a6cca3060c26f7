/- FnExactCountOf without Go: for every text that memory holds, the program's CountOf is the reference's. -/
import Derived.Test.YtoaajkpcefgofaaDoorLAcount
import Derived.Test.YtoaajkpcefgofaaDoorXA1
import Derived.Test.YtoaajkpcefgofaaDoorXA6
namespace Go.Proofs.YtoaajkpcefgofaaDoor.Pure
set_option linter.unusedVariables false
set_option linter.unusedSimpArgs false
open Go Go.RowKit Go.Proofs.YtoaajkpcefgofaaDoor.XA Go.Proofs.YtoaajkpcefgofaaDoorB
theorem FnExactCountOf (a : ByteArray) (hs : a.size ≤ 140737488351232) : ∃ k, laws_FnExactCountOf.f k a = some true := by
  refine ⟨100, ?_⟩
  unfold laws_FnExactCountOf.f
  split
  · rfl
  have hr : ∃ r, spec_CountOf.f 100 a = some r ∧ impl_CountOf.f a = some r := by
    unfold spec_CountOf.f impl_CountOf.f impl_IsLine.f
    rw [liGood_eq a hs 100 (by omega), show impl_isLineOf.f a 12 = some (isLine 12 a) from isLineOf_eq a 12 hs, impl_count_eq]
    simp only [Option.bind_some]
    cases hL : isLine 12 a with
    | false => exact ⟨_, rfl, rfl⟩
    | true =>
      obtain ⟨h1, h12, _⟩ := isLine_size hL
      rw [show spec_liCount.f 100 a 84 = _ from liCount_eq a hs 84 100 (by omega), show spec_liCount.f 100 a 46 = _ from liCount_eq a hs 46 100 (by omega), show spec_liCount.f 100 a 70 = _ from liCount_eq a hs 70 100 (by omega)]
      exact ⟨_, rfl, rfl⟩
  obtain ⟨r, h1, h2⟩ := hr
  rw [h1, h2]
  simp
end Go.Proofs.YtoaajkpcefgofaaDoor.Pure
