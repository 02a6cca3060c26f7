/- FnExactRuleText without Go: for all rules, the program's RuleText is the reference's. -/
import Derived.Test.YticlpfeeokghnaaB
import Derived.Test.YticlpfeeokghnaaXA3
namespace Go.Proofs.Yticlpfeeokghnaa.Pure
set_option linter.unusedVariables false
set_option linter.unusedSimpArgs false
open Go Go.RowKit Go.Proofs.YticlpfeeokghnaaW.PrintWords Go.Proofs.Yticlpfeeokghnaa.XA Go.Proofs.YticlpfeeokghnaaB
theorem FnExactRuleText (o b l : Bool) : ∃ k, laws_FnExactRuleText.f k o b l = some true := by
  refine ⟨20, ?_⟩
  cases o <;> cases b <;> cases l <;> decide +kernel
end Go.Proofs.Yticlpfeeokghnaa.Pure
