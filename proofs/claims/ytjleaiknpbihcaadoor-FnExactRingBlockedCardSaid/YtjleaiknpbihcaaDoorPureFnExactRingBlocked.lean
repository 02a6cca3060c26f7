/- FnExactRingBlocked without Go: for every text that memory holds and all other arguments, the program's RingBlocked is the reference's. -/
import Derived.Test.YtjleaiknpbihcaaDoorLAcimoves
import Derived.Test.YtjleaiknpbihcaaDoorXA3
namespace Go.Proofs.YtjleaiknpbihcaaDoor.Pure
set_option linter.unusedVariables false
set_option linter.unusedSimpArgs false
open Go Go.RowKit Go.Proofs.YtjleaiknpbihcaaDoorW.PrintWords Go.Proofs.YtjleaiknpbihcaaDoor.XA Go.Proofs.YtjleaiknpbihcaaDoorB
theorem FnExactRingBlocked (a : ByteArray) (hs : a.size ≤ 140737488351232) : ∃ k, laws_FnExactRingBlocked.f k a  = some true := by
  refine ⟨2000, ?_⟩
  have hr : ∃ r, spec_RingBlocked.f 2000 a = some r ∧ impl_RingBlocked.f 2000 a = some r := by
    unfold spec_RingBlocked.f impl_RingBlocked.f
    rw [ciGood_eq a hs 2000 (by omega), impl_IsRing_eq a hs]
    simp only [Option.bind_some]
    cases hL : isRing a with
    | false => exact ⟨_, rfl, rfl⟩
    | true =>
      obtain ⟨h3, h9, hl⟩ := isRing_size hL
      simp only [if_true]
      rw [ciMoves_eq a h3 h9 hl 2000 (by omega), impl_ringMoves_eq a h3 h9 2000 (by omega)]
      exact ⟨_, rfl, rfl⟩
  obtain ⟨r, h1, h2⟩ := hr
  unfold laws_FnExactRingBlocked.f
  split
  · rfl
  rw [h1, h2]
  simp
end Go.Proofs.YtjleaiknpbihcaaDoor.Pure
