/- FnExactIsBoard without Go: for every text that memory holds, the program's IsBoard is the reference's. -/
import Derived.Test.YtpfahibbmkcnoaaDoorLBboard
import Derived.Test.YtpfahibbmkcnoaaDoorXB2
namespace Go.Proofs.YtpfahibbmkcnoaaDoor.Pure
set_option linter.unusedVariables false
set_option linter.unusedSimpArgs false
open Go Go.RowKit Go.Proofs.YtpfahibbmkcnoaaDoorW.PrintWords Go.Proofs.YtpfahibbmkcnoaaDoor.XB Go.Proofs.YtpfahibbmkcnoaaDoorB
theorem FnExactIsBoard (a : ByteArray) (hs : a.size ≤ 140737488351232) : ∃ k, laws_FnExactIsBoard.f k a = some true := by
  refine ⟨300, ?_⟩
  unfold laws_FnExactIsBoard.f
  split
  · rfl
  unfold spec_IsBoard.f
  rw [boRows_eq a 300 (by omega), impl_IsBoard_eq a]
  cases okRows (rowsOf a) <;> rfl
end Go.Proofs.YtpfahibbmkcnoaaDoor.Pure
