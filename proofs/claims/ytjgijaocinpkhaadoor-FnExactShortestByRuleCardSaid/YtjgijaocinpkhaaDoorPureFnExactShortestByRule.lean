/- FnExactShortestByRule without Go: for all texts that memory holds and all rules, the program's ShortestByRule is the reference's. -/
import Derived.Test.YtjgijaocinpkhaaDoorLDall
import Derived.Test.YtjgijaocinpkhaaDoorXD1
import Derived.Test.YtjgijaocinpkhaaDoorXD10
import Derived.Test.YtjgijaocinpkhaaDoorXD7
namespace Go.Proofs.YtjgijaocinpkhaaDoor.Pure
set_option linter.unusedVariables false
set_option linter.unusedSimpArgs false
open Go Go.RowKit Go.Proofs.YtjgijaocinpkhaaDoorW.PrintWords Go.Proofs.YtjgijaocinpkhaaDoor.XD Go.Proofs.YtjgijaocinpkhaaDoorB Go.Proofs.YtjgijaocinpkhaaDoor.Pm Go.Proofs.YtjgijaocinpkhaaDoor.Srts
theorem FnExactShortestByRule (a v : ByteArray) (o b l : Bool) (hs : a.size ≤ 140737488351232) (hv : v.size ≤ 140737488351232) : ∃ k, laws_FnExactShortestByRule.f k a v o b l = some true := by
  refine ⟨100000, ?_⟩
  have hr : ∃ r : Int × Bool, spec_ShortestByRule.f 100000 a v o b l = some r ∧ impl_ShortestByRule.f a v o b l = some r := by
    unfold spec_ShortestByRule.f spec_ruTwo.f
    rw [reFew_eq a hs 100000 (by omega), reFew_eq v hv 100000 (by omega)]
    simp only [Option.bind_some]
    cases hL : isLine 10 a with
    | false =>
      unfold impl_ShortestByRule.f impl_FirstShortest.f
      rw [impl_isReachLine_eq a hs, hL]
      exact ⟨_, rfl, rfl⟩
    | true =>
      simp only [if_true]
      cases hM : isLine 10 v with
      | false =>
        unfold impl_ShortestByRule.f impl_FirstShortest.f
        rw [impl_isReachLine_eq a hs, impl_isReachLine_eq v hv, hL, hM]
        exact ⟨_, rfl, rfl⟩
      | true =>
        simp only [Option.bind_some, if_true]
        exact shortest_both hs hv hL hM o b l 100000 (by omega)
  obtain ⟨r, h1, h2⟩ := hr
  unfold laws_FnExactShortestByRule.f
  split
  · rfl
  split
  · rfl
  rw [show laws_toRule.f o b l = some (o, b, l) from rfl]
  simp only [Option.bind_some]
  rw [h1, h2]
  simp
end Go.Proofs.YtjgijaocinpkhaaDoor.Pure
