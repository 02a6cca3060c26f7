/- FnExactIsRing without Go: for every text that memory holds, the program's IsRing is the reference's. -/
import Derived.Test.YtoaajkpcefgofaaDoorLAring
import Derived.Test.YtoaajkpcefgofaaDoorXA1
import Derived.Test.YtoaajkpcefgofaaDoorXA2
namespace Go.Proofs.YtoaajkpcefgofaaDoor.Pure
set_option linter.unusedVariables false
set_option linter.unusedSimpArgs false
open Go Go.RowKit Go.Proofs.YtoaajkpcefgofaaDoor.XA Go.Proofs.YtoaajkpcefgofaaDoorB
theorem FnExactIsRing (a : ByteArray) (hs : a.size ≤ 140737488351232) : ∃ k, laws_FnExactIsRing.f k a = some true := by
  refine ⟨100, ?_⟩
  unfold laws_FnExactIsRing.f
  split
  · rfl
  · exact law_one _ _ (isRing a) (by unfold spec_IsRing.f; rw [ciGood_eq a hs 100 (by omega)]; rfl) (impl_IsRing_eq a hs)
end Go.Proofs.YtoaajkpcefgofaaDoor.Pure
