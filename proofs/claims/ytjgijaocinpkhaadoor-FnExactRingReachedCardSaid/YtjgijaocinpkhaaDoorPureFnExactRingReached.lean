/- FnExactRingReached without Go: for every text that memory holds, the program's RingReached is the reference's, and what it returned stays as it was. -/
import Derived.Test.YtjgijaocinpkhaaDoorLZall
import Derived.Test.YtjgijaocinpkhaaDoorXZ5
import Derived.Test.YtjgijaocinpkhaaDoorXZ6
import Derived.Test.YtjgijaocinpkhaaDoorXZ7
namespace Go.Proofs.YtjgijaocinpkhaaDoor.Pure
set_option linter.unusedVariables false
set_option linter.unusedSimpArgs false
open Go Go.RowKit Go.Proofs.YtjgijaocinpkhaaDoorW.PrintWords Go.Proofs.YtjgijaocinpkhaaDoor.XZ Go.Proofs.YtjgijaocinpkhaaDoorB Go.Proofs.YtjgijaocinpkhaaDoor.Srts Go.Proofs.YtjgijaocinpkhaaDoor.Sorts
theorem reached_both (a : ByteArray) (hs : a.size ≤ 140737488351232) : ∃ (r : List ByteArray) (c : Bool), r.length ≤ 60000 ∧ (∀ k, 4000000000 ≤ k → spec_RingReached.f k a = some (r, c)) ∧ impl_RingReached.f a = some (r, c) := by
  unfold spec_RingReached.f impl_RingReached.f
  rw [impl_IsRing_eq a hs]
  simp only [Option.bind_some]
  cases hL : isRing a with
  | false => exact ⟨[], false, by simp, fun k hk => by rw [ciGood_eq a hs k (by omega), hL]; rfl, rfl⟩
  | true =>
    obtain ⟨E, e1, e2, e3, e4, e5, e6⟩ := ring_found (isRing_size hL).1 (isRing_size hL).2.1 (a := a) ⟨rfl, (isRing_size hL).2.2⟩
    have hlE : (Bfs.nodes E).length = E.length := List.length_map _
    refine ⟨sorted (Bfs.nodes E), true, by rw [sorted_length]; omega, fun k hk => ?_, ?_⟩
    · rw [ciGood_eq a hs k (by omega), hL]
      simp only [Option.bind_some, if_true]
      rw [e2]
      simp only [Option.bind_some]
      rw [ciSorted_eq _ (by omega) e4.nodup k hk]
      rfl
    · simp only [if_true]
      rw [e1]
      rfl
theorem FnExactRingReached (a : ByteArray) (hs : a.size ≤ 140737488351232) : ∃ k, laws_FnExactRingReached.f k a = some true := by
  refine ⟨4000000001, ?_⟩
  obtain ⟨r, c, hlr, h1, h2⟩ := reached_both a hs
  unfold laws_FnExactRingReached.f
  split
  · rfl
  rw [h1 4000000001 (by omega)]
  simp only [Option.bind_some]
  rw [h2]
  simp only [Option.bind_some]
  rw [eqStringS_same r (by omega) 4000000001 (by omega)]
  simp only [Option.bind_some, if_true, bne_self_eq_false]
  simp only [laws_FnExactRingReached.j0]
  rw [if_neg (by decide)]
  obtain ⟨y, hm, hy, hj⟩ := markStringS_eq r (by omega) 4000000000 (by omega)
  rw [hm]
  simp only [Option.bind_some]
  rw [heldStringS_eq y (by omega) (fun j h => hj j (by omega)) 4000000000 (by omega)]
  simp only [Option.bind_some]
  rw [if_neg (by omega), if_pos (by rw [hy]), h2]
  simp only [Option.bind_some]
  rw [eqStringS_same r (by omega) 4000000000 (by omega)]
  simp only [Option.bind_some, if_true, bne_self_eq_false]
  simp only [laws_FnExactRingReached.j1]
  rw [if_neg (by decide), heldStringS_eq y (by omega) (fun j h => hj j (by omega)) 3999999999 (by omega)]
  simp only [Option.bind_some]
  rw [if_neg (by omega), if_pos (by rw [hy])]
end Go.Proofs.YtjgijaocinpkhaaDoor.Pure
