/- Whether there are numbers of toads, gaps and frogs, for the reference: for all numbers. -/
import Derived.Test.YtpelhinjoambfaaXD1
import Derived.Test.YtpelhinjoambfaaLDthree0
namespace Go.Proofs.Ytpelhinjoambfaa.XD
set_option linter.unusedVariables false
set_option linter.unusedSimpArgs false
open Go Go.RowKit Go.Proofs.YtpelhinjoambfaaW.PrintWords Go.Proofs.YtpelhinjoambfaaB
theorem spec_three3 (x y z : Int) (k : Nat) (hk : 20 ≤ k) : spec_liThree.f k x y z = some (threeB 12 x y z) := by
  refine at_rounds (spec_liThree.mono x y z) hk ?_
  unfold spec_liThree.f threeB
  rw [all_eq3]
  simp only [Option.bind_some, in_eq3]
  generalize decide (0 ≤ x ∧ x ≤ 12) = p
  generalize decide (0 ≤ y ∧ y ≤ 12) = q
  generalize decide (0 ≤ z ∧ z ≤ 12) = r
  cases p <;> cases q <;> cases r <;> rfl
end Go.Proofs.Ytpelhinjoambfaa.XD
