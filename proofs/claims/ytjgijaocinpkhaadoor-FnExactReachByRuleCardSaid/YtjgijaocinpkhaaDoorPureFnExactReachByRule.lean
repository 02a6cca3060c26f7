/- FnExactReachByRule without Go: for all texts that memory holds and all rules, the program's ReachByRule is the reference's. -/
import Derived.Test.YtjgijaocinpkhaaDoorLCrusteps
import Derived.Test.YtjgijaocinpkhaaDoorXC1
import Derived.Test.YtjgijaocinpkhaaDoorXC2
import Derived.Test.YtjgijaocinpkhaaDoorXC7
import Derived.Test.YtjgijaocinpkhaaDoorXC9
namespace Go.Proofs.YtjgijaocinpkhaaDoor.Pure
set_option linter.unusedVariables false
set_option linter.unusedSimpArgs false
open Go Go.RowKit Go.Proofs.YtjgijaocinpkhaaDoorW.PrintWords Go.Proofs.YtjgijaocinpkhaaDoor.XC Go.Proofs.YtjgijaocinpkhaaDoorB Go.Proofs.YtjgijaocinpkhaaDoor.Pm
theorem FnExactReachByRule (a v : ByteArray) (o b l : Bool) (hs : a.size ≤ 140737488351232) (hv : v.size ≤ 140737488351232) : ∃ k, laws_FnExactReachByRule.f k a v o b l = some true := by
  refine ⟨100000, ?_⟩
  have hr : ∃ r : Bool × Bool, spec_ReachByRule.f 100000 a v o b l = some r ∧ impl_ReachByRule.f a v o b l = some r := by
    unfold spec_ReachByRule.f impl_ReachByRule.f spec_ruTwo.f
    rw [reFew_eq a hs 100000 (by omega), reFew_eq v hv 100000 (by omega), impl_isReachLine_eq a hs, impl_isReachLine_eq v hv]
    simp only [Option.bind_some]
    cases hL : isLine 10 a with
    | false => exact ⟨_, rfl, rfl⟩
    | true =>
      simp only [if_true]
      cases hM : isLine 10 v with
      | false => exact ⟨_, rfl, rfl⟩
      | true =>
        obtain ⟨h1, h10, hl⟩ := isLine_size hL
        obtain ⟨E, e1, e2, _, _, e5⟩ := byRule_found h1 h10 o b l (a := a) ⟨rfl, hl⟩
        rw [e1, ruSteps_eq e2 e5 100000 (by omega)]
        have hv10 := (isLine_size hM).2.1
        simp only [Option.bind_some, if_true]
        rw [if_pos (by omega)]
        refine ⟨_, rfl, ?_⟩
        congr 2
        by_cases h : v ∈ Bfs.nodes E
        · rw [inN_iff.2 h, decide_eq_true (stepsTo_some h)]
        · rw [inN_no.2 h, stepsTo_none h]
          rfl
  obtain ⟨r, h1, h2⟩ := hr
  unfold laws_FnExactReachByRule.f
  split
  · rfl
  split
  · rfl
  rw [show laws_toRule.f o b l = some (o, b, l) from rfl]
  simp only [Option.bind_some]
  rw [h1, h2]
  simp
end Go.Proofs.YtjgijaocinpkhaaDoor.Pure
