/- For no input at all the law on the constants answers true. -/
import Derived.Test.YticlpfeeokghnaaPFnExactConstantsx1
set_option linter.unusedVariables false
set_option linter.unusedSimpArgs false
namespace Go.Proofs.Yticlpfeeokghnaa.PureConstants
open Go Go.RowKit Go.Proofs.Yticlpfeeokghnaa.PFnExactConstants Go.Proofs.YticlpfeeokghnaaW.PrintWords Go.Proofs.YticlpfeeokghnaaW.PrintLast


theorem FnExactConstants : laws_FnExactConstants.Pure := by
  unfold laws_FnExactConstants.Pure
  decide

end Go.Proofs.Yticlpfeeokghnaa.PureConstants

namespace Go.Proofs.Yticlpfeeokghnaa.Pure
open Go Go.RowKit Go.Proofs.Yticlpfeeokghnaa.PFnExactConstants

theorem FnExactConstants : laws_FnExactConstants.Pure := PureConstants.FnExactConstants

end Go.Proofs.Yticlpfeeokghnaa.Pure
