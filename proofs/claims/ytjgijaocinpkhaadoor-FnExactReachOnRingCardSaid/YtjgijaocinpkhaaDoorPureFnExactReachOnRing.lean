/- FnExactReachOnRing without Go: for all texts that memory holds, the program's ReachOnRing is the reference's. -/
import Derived.Test.YtjgijaocinpkhaaDoorLOringpath
import Derived.Test.YtjgijaocinpkhaaDoorXO4
import Derived.Test.YtjgijaocinpkhaaDoorXO5
import Derived.Test.YtjgijaocinpkhaaDoorXO6
namespace Go.Proofs.YtjgijaocinpkhaaDoor.Pure
set_option linter.unusedVariables false
set_option linter.unusedSimpArgs false
open Go Go.RowKit Go.Proofs.YtjgijaocinpkhaaDoorW.PrintWords Go.Proofs.YtjgijaocinpkhaaDoor.XO Go.Proofs.YtjgijaocinpkhaaDoorB Go.Proofs.YtjgijaocinpkhaaDoor.Pm Go.Proofs.YtjgijaocinpkhaaDoor.Srts
theorem FnExactReachOnRing (a v : ByteArray) (hs : a.size ≤ 140737488351232) (hv : v.size ≤ 140737488351232) : ∃ k, laws_FnExactReachOnRing.f k a v = some true := by
  refine ⟨100000, ?_⟩
  have hr : ∃ r : Bool × Bool, spec_ReachOnRing.f 100000 a v = some r ∧ impl_ReachOnRing.f a v = some r := by
    unfold spec_ReachOnRing.f impl_ReachOnRing.f impl_PathOnRing.f
    rw [ciGood_eq a hs 100000 (by omega), ciGood_eq v hv 100000 (by omega), impl_IsRing_eq a hs, impl_IsRing_eq v hv]
    simp only [Option.bind_some]
    cases hL : isRing a with
    | false => exact ⟨_, rfl, rfl⟩
    | true =>
      simp only [if_true, Option.bind_some]
      cases hM : isRing v with
      | false => exact ⟨_, rfl, rfl⟩
      | true =>
        obtain ⟨h3, h9, ha⟩ := ring_lineN hL
        obtain ⟨E, e1, e2, e3, e4, e5, e6⟩ := ring_found h3 h9 ha
        have hv9 := (ring_lineN hM).2.1
        simp only [if_true, Option.bind_some]
        rw [e1, if_pos (by omega)]
        simp only [Option.bind_some]
        by_cases h : v ∈ Bfs.nodes E
        · obtain ⟨F, f1, f2⟩ := pathG_in e2 e3 (by rw [show (Bfs.nodes E).length = E.length from List.length_map _]; exact e6) h
          rw [f1, playE_some h]
          exact ⟨_, rfl, rfl⟩
        · rw [pathG_out e2 h, playE_none h]
          exact ⟨_, rfl, rfl⟩
  obtain ⟨r, h1, h2⟩ := hr
  unfold laws_FnExactReachOnRing.f
  split
  · rfl
  split
  · rfl
  rw [h1, h2]
  simp
end Go.Proofs.YtjgijaocinpkhaaDoor.Pure
