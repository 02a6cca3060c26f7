/- FnExactRingMoves without Go: for every text that memory holds and all other arguments, the program's RingMoves is the reference's, and what it returned stays as it was. -/
import Derived.Test.YtjleaiknpbihcaaDoorLAcimoves
import Derived.Test.YtjleaiknpbihcaaDoorLAheldM
import Derived.Test.YtjleaiknpbihcaaDoorXA0
import Derived.Test.YtjleaiknpbihcaaDoorXA41
import Derived.Test.YtjleaiknpbihcaaDoorXA42
import Derived.Test.YtjleaiknpbihcaaDoorXA45
namespace Go.Proofs.YtjleaiknpbihcaaDoor.Pure
set_option linter.unusedVariables false
set_option linter.unusedSimpArgs false
open Go Go.RowKit Go.Proofs.YtjleaiknpbihcaaDoorW.PrintWords Go.Proofs.YtjleaiknpbihcaaDoor.XA Go.Proofs.YtjleaiknpbihcaaDoorB
theorem FnExactRingMoves (a : ByteArray) (hs : a.size ≤ 140737488351232) : ∃ k, laws_FnExactRingMoves.f k a = some true := by
  refine ⟨2000, ?_⟩
  have hr : ∃ (r : List S28) (c : Bool), r.length ≤ 200 ∧ (∀ k, 1800 ≤ k → spec_RingMoves.f k a = some (r, c) ∧ impl_RingMoves.f k a = some (r, c)) := by
    cases hL : isRing a with
    | false =>
      refine ⟨[], false, by simp, fun k hk => ?_⟩
      unfold spec_RingMoves.f impl_RingMoves.f
      rw [ciGood_eq a hs k (by omega), impl_IsRing_eq a hs, hL]
      exact ⟨rfl, rfl⟩
    | true =>
      obtain ⟨h3, h9, hl⟩ := isRing_size hL
      refine ⟨rmoves a, true, by have := rmoves_length a; omega, fun k hk => ?_⟩
      unfold spec_RingMoves.f impl_RingMoves.f
      rw [ciGood_eq a hs k (by omega), impl_IsRing_eq a hs, hL]
      simp only [Option.bind_some, if_true]
      rw [ciMoves_eq a h3 h9 hl k (by omega), impl_ringMoves_eq a h3 h9 k (by omega)]
      exact ⟨rfl, rfl⟩
  obtain ⟨r, c, hlr, hk⟩ := hr
  unfold laws_FnExactRingMoves.f
  split
  · rfl
  rw [(hk 2000 (by omega)).1]
  simp only [Option.bind_some]
  rw [(hk 2000 (by omega)).2]
  simp only [Option.bind_some]
  rw [eqMoveS_same r (by omega) 2000 (by omega)]
  simp only [Option.bind_some, if_true, bne_self_eq_false]
  simp only [laws_FnExactRingMoves.j0]
  rw [if_neg (by decide)]
  obtain ⟨y, hm, hy, hj⟩ := markMoveS_eq r (by omega) 1999 (by omega)
  rw [hm]
  simp only [Option.bind_some]
  rw [heldMoveS_eq y (by omega) (fun j h => hj j (by omega)) 1999 (by omega)]
  simp only [Option.bind_some]
  rw [if_neg (by omega), if_pos (by omega)]
  rw [(hk 1999 (by omega)).2]
  simp only [Option.bind_some]
  rw [eqMoveS_same r (by omega) 1999 (by omega)]
  simp only [Option.bind_some, if_true, bne_self_eq_false]
  simp only [laws_FnExactRingMoves.j1]
  rw [if_neg (by decide), heldMoveS_eq y (by omega) (fun j h => hj j (by omega)) 1998 (by omega)]
  simp only [Option.bind_some]
  rw [if_neg (by omega), if_pos (by omega)]
end Go.Proofs.YtjleaiknpbihcaaDoor.Pure
