/- FnExactShortestOnRing without Go: for all texts that memory holds, the program's ShortestOnRing is the reference's. -/
import Derived.Test.YtjgijaocinpkhaaDoorLOringshort
import Derived.Test.YtjgijaocinpkhaaDoorXO5
import Derived.Test.YtjgijaocinpkhaaDoorXO6
namespace Go.Proofs.YtjgijaocinpkhaaDoor.Pure
set_option linter.unusedVariables false
set_option linter.unusedSimpArgs false
open Go Go.RowKit Go.Proofs.YtjgijaocinpkhaaDoorW.PrintWords Go.Proofs.YtjgijaocinpkhaaDoor.XO Go.Proofs.YtjgijaocinpkhaaDoorB Go.Proofs.YtjgijaocinpkhaaDoor.Pm Go.Proofs.YtjgijaocinpkhaaDoor.Srts
theorem FnExactShortestOnRing (a v : ByteArray) (hs : a.size ≤ 140737488351232) (hv : v.size ≤ 140737488351232) : ∃ k, laws_FnExactShortestOnRing.f k a v = some true := by
  refine ⟨100000, ?_⟩
  have hr : ∃ r : Int × Bool, spec_ShortestOnRing.f 100000 a v = some r ∧ impl_ShortestOnRing.f a v = some r := by
    unfold spec_ShortestOnRing.f
    rw [ciGood_eq a hs 100000 (by omega), ciGood_eq v hv 100000 (by omega)]
    simp only [Option.bind_some]
    cases hL : isRing a with
    | false =>
      unfold impl_ShortestOnRing.f impl_PathOnRing.f
      rw [impl_IsRing_eq a hs, hL]
      exact ⟨_, rfl, rfl⟩
    | true =>
      simp only [if_true, Option.bind_some]
      cases hM : isRing v with
      | false =>
        unfold impl_ShortestOnRing.f impl_PathOnRing.f
        rw [impl_IsRing_eq a hs, impl_IsRing_eq v hv, hL, hM]
        exact ⟨_, rfl, rfl⟩
      | true =>
        obtain ⟨h3, h9, ha⟩ := ring_lineN hL
        obtain ⟨E, e1, e2, e3, e4, e5, e6⟩ := ring_found h3 h9 ha
        simp only [if_true, Option.bind_some]
        by_cases h : v ∈ Bfs.nodes E
        · obtain ⟨e, he, hn⟩ := ent_at h
          obtain ⟨F, f1, f2⟩ := pathG_in e2 e3 (by rw [show (Bfs.nodes E).length = E.length from List.length_map _]; exact e6) h
          rw [f1, impl_short_in hL hM hs hv e1 e4 h he hn]
          simp only [Option.bind_some]
          rw [fars_root e4 rfl f2 he hn]
          exact ⟨_, rfl, rfl⟩
        · rw [pathG_out e2 h, impl_short_out hL hM hs hv e1 h]
          exact ⟨_, rfl, rfl⟩
  obtain ⟨r, h1, h2⟩ := hr
  unfold laws_FnExactShortestOnRing.f
  split
  · rfl
  split
  · rfl
  rw [h1, h2]
  simp
end Go.Proofs.YtjgijaocinpkhaaDoor.Pure
