/- FnExactLastLine without Go: for every text that memory holds, the program's LastLine is the reference's. -/
import Derived.Test.YtgiphajcffambaaDoorLLlast
import Derived.Test.YtgiphajcffambaaDoorXL1
import Derived.Test.YtgiphajcffambaaDoorXL2
import Derived.Test.YtgiphajcffambaaDoorXL3
namespace Go.Proofs.YtgiphajcffambaaDoor.Pure
set_option linter.unusedVariables false
set_option linter.unusedSimpArgs false
open Go Go.RowKit Go.Proofs.YtgiphajcffambaaDoorW.PrintWords Go.Proofs.YtgiphajcffambaaDoor.XL Go.Proofs.YtgiphajcffambaaDoorB
theorem FnExactLastLine (a : ByteArray) (hs : a.size ≤ 140737488351232) : ∃ k, laws_FnExactLastLine.f k a = some true := by
  refine ⟨100, ?_⟩
  unfold laws_FnExactLastLine.f
  split
  · rfl
  have hr : ∃ r, spec_LastLine.f 100 a = some r ∧ impl_LastLine.f a = some r := by
    unfold spec_LastLine.f impl_LastLine.f impl_IsLine.f
    rw [liGood_eq a hs 100 (by omega), show impl_isLineOf.f a 12 = some (isLine 12 a) from isLineOf_eq a 12 hs]
    simp only [Option.bind_some]
    cases hL : isLine 12 a with
    | false => exact ⟨_, rfl, rfl⟩
    | true =>
      obtain ⟨h1, h12, _⟩ := isLine_size hL
      simp only [if_true]
      rw [liLast_eq a (by omega) 100 (by omega), impl_last_eq a (by omega)]
      exact ⟨_, rfl, rfl⟩
  obtain ⟨r, h1, h2⟩ := hr
  rw [h1, h2]
  simp
end Go.Proofs.YtgiphajcffambaaDoor.Pure
