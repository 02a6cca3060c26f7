/- FnExactCountReachedByRule without Go: for every text that memory holds and all rules, the program's CountReachedByRule is the reference's. -/
import Derived.Test.YtjgijaocinpkhaaDoorLBreach
import Derived.Test.YtjgijaocinpkhaaDoorXB1
import Derived.Test.YtjgijaocinpkhaaDoorXB12
import Derived.Test.YtjgijaocinpkhaaDoorXB13
import Derived.Test.YtjgijaocinpkhaaDoorXB2
import Derived.Test.YtjgijaocinpkhaaDoorXB6
import Derived.Test.YtjgijaocinpkhaaDoorXB7
namespace Go.Proofs.YtjgijaocinpkhaaDoor.Pure
set_option linter.unusedVariables false
set_option linter.unusedSimpArgs false
open Go Go.RowKit Go.Proofs.YtjgijaocinpkhaaDoorW.PrintWords Go.Proofs.YtjgijaocinpkhaaDoor.XB Go.Proofs.YtjgijaocinpkhaaDoorB
theorem FnExactCountReachedByRule (a : ByteArray) (o b l : Bool) (hs : a.size ≤ 140737488351232) : ∃ k, laws_FnExactCountReachedByRule.f k a o b l = some true := by
  refine ⟨2000, ?_⟩
  have hr : ∃ r : Int × Bool, spec_CountReachedByRule.f 2000 a o b l = some r ∧ impl_CountReachedByRule.f a o b l = some r := by
    unfold spec_CountReachedByRule.f impl_CountReachedByRule.f
    rw [reFew_eq a hs 2000 (by omega), impl_isReachLine_eq a hs]
    simp only [Option.bind_some]
    cases hL : isLine 10 a with
    | false => exact ⟨_, rfl, rfl⟩
    | true =>
      obtain ⟨h1, h10, hl⟩ := isLine_size hL
      obtain ⟨E, e1, e2, _⟩ := byRule_found h1 h10 o b l (a := a) ⟨rfl, hl⟩
      unfold spec_ruReach.f
      rw [e1, e2]
      simp only [Option.bind_some, if_true]
      exact ⟨_, rfl, by rw [nodes_len]⟩
  obtain ⟨r, h1, h2⟩ := hr
  unfold laws_FnExactCountReachedByRule.f
  split
  · rfl
  rw [show laws_toRule.f o b l = some (o, b, l) from rfl]
  simp only [Option.bind_some]
  rw [h1, h2]
  simp
end Go.Proofs.YtjgijaocinpkhaaDoor.Pure
