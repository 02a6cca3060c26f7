/- FnExactIsLine without Go: for every text that memory holds, the program's IsLine is the reference's. -/
import Derived.Test.YtoaajkpcefgofaaDoorLAline
import Derived.Test.YtoaajkpcefgofaaDoorXA1
namespace Go.Proofs.YtoaajkpcefgofaaDoor.Pure
set_option linter.unusedVariables false
set_option linter.unusedSimpArgs false
open Go Go.RowKit Go.Proofs.YtoaajkpcefgofaaDoor.XA Go.Proofs.YtoaajkpcefgofaaDoorB
theorem FnExactIsLine (a : ByteArray) (hs : a.size ≤ 140737488351232) : ∃ k, laws_FnExactIsLine.f k a = some true := by
  refine ⟨100, ?_⟩
  unfold laws_FnExactIsLine.f
  split
  · rfl
  · refine law_one _ _ (isLine 12 a) (by unfold spec_IsLine.f; rw [liGood_eq a hs 100 (by omega)]; rfl) ?_
    unfold impl_IsLine.f
    rw [show impl_isLineOf.f a 12 = some (isLine 12 a) from isLineOf_eq a 12 hs]
    rfl
end Go.Proofs.YtoaajkpcefgofaaDoor.Pure
