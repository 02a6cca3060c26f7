/- FnExactLineOfRank without Go: for all counts and ranks, the program's LineOfRank is the reference's. -/
import Derived.Test.YtpelhinjoambfaaLRlineofrank
import Derived.Test.YtpelhinjoambfaaXR4
namespace Go.Proofs.Ytpelhinjoambfaa.Pure
set_option linter.unusedVariables false
set_option linter.unusedSimpArgs false
open Go Go.RowKit Go.Proofs.YtpelhinjoambfaaW.PrintWords Go.Proofs.Ytpelhinjoambfaa.XR Go.Proofs.YtpelhinjoambfaaB
theorem FnExactLineOfRank (x y z r : Int) (_ : (Lit.int .i64 x).wf = true) (_ : (Lit.int .i64 y).wf = true) (_ : (Lit.int .i64 z).wf = true) (_ : (Lit.int .i64 r).wf = true) : ∃ k, laws_FnExactLineOfRank.f k x y z r = some true := by
  refine ⟨100, ?_⟩
  unfold laws_FnExactLineOfRank.f
  rw [spec_lor x y z r 100 (by omega), impl_lor]
  simp
end Go.Proofs.Ytpelhinjoambfaa.Pure
