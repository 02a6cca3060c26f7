/- FnExactRankOfLine without Go: for every text that memory holds, the program's RankOfLine is the reference's. -/
import Derived.Test.YtgiphajcffambaaDoorLRrankofline
import Derived.Test.YtgiphajcffambaaDoorXR3
namespace Go.Proofs.YtgiphajcffambaaDoor.Pure
set_option linter.unusedVariables false
set_option linter.unusedSimpArgs false
open Go Go.RowKit Go.Proofs.YtgiphajcffambaaDoorW.PrintWords Go.Proofs.YtgiphajcffambaaDoor.XR Go.Proofs.YtgiphajcffambaaDoorB
theorem FnExactRankOfLine (a : ByteArray) (hs : a.size ≤ 140737488351232) : ∃ k, laws_FnExactRankOfLine.f k a = some true := by
  refine ⟨100, ?_⟩
  unfold laws_FnExactRankOfLine.f
  split
  · rfl
  rw [spec_rkl a hs 100 (by omega), impl_rkl a hs]
  simp
end Go.Proofs.YtgiphajcffambaaDoor.Pure
