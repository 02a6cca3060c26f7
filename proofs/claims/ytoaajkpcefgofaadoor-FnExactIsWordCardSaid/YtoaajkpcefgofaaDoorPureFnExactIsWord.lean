/- FnExactIsWord without Go: for every text that memory holds, the program's IsWord is the reference's. -/
import Derived.Test.YtoaajkpcefgofaaDoorLAword
import Derived.Test.YtoaajkpcefgofaaDoorXA1
namespace Go.Proofs.YtoaajkpcefgofaaDoor.Pure
set_option linter.unusedVariables false
set_option linter.unusedSimpArgs false
open Go Go.RowKit Go.Proofs.YtoaajkpcefgofaaDoor.XA Go.Proofs.YtoaajkpcefgofaaDoorB
theorem FnExactIsWord (a : ByteArray) (hs : a.size ≤ 140737488351232) : ∃ k, laws_FnExactIsWord.f k a = some true := by
  refine ⟨100, ?_⟩
  unfold laws_FnExactIsWord.f
  split
  · rfl
  · exact law_one _ _ (isWord a) (by unfold spec_IsWord.f; rw [woGood_eq a hs 100 (by omega)]; rfl) (impl_IsWord_eq a hs)
end Go.Proofs.YtoaajkpcefgofaaDoor.Pure
