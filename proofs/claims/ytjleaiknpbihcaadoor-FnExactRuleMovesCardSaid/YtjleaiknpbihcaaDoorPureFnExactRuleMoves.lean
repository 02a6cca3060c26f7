/- FnExactRuleMoves without Go: for every text that memory holds and all other arguments, the program's RuleMoves is the reference's, and what it returned stays as it was. -/
import Derived.Test.YtjleaiknpbihcaaDoorLArumoves
import Derived.Test.YtjleaiknpbihcaaDoorLAheldM
import Derived.Test.YtjleaiknpbihcaaDoorXA0
import Derived.Test.YtjleaiknpbihcaaDoorXA2
import Derived.Test.YtjleaiknpbihcaaDoorXA54
import Derived.Test.YtjleaiknpbihcaaDoorXA55
import Derived.Test.YtjleaiknpbihcaaDoorXA56
namespace Go.Proofs.YtjleaiknpbihcaaDoor.Pure
set_option linter.unusedVariables false
set_option linter.unusedSimpArgs false
open Go Go.RowKit Go.Proofs.YtjleaiknpbihcaaDoorW.PrintWords Go.Proofs.YtjleaiknpbihcaaDoor.XA Go.Proofs.YtjleaiknpbihcaaDoorB
theorem FnExactRuleMoves (a : ByteArray) (o b l : Bool) (hs : a.size ≤ 140737488351232) : ∃ k, laws_FnExactRuleMoves.f k a o b l = some true := by
  refine ⟨2000, ?_⟩
  have hr : ∃ (r : List S28) (c : Bool), r.length ≤ 200 ∧ (∀ k, 1800 ≤ k → spec_RuleMoves.f k a o b l = some (r, c) ∧ impl_RuleMoves.f k a o b l = some (r, c)) := by
    cases hL : isLine 10 a with
    | false =>
      refine ⟨[], false, by simp, fun k hk => ?_⟩
      unfold spec_RuleMoves.f impl_RuleMoves.f
      rw [reFew_eq a hs k (by omega), impl_isReachLine_eq a hs, hL]
      exact ⟨rfl, rfl⟩
    | true =>
      obtain ⟨h1, h10, hl⟩ := isLine_size hL
      refine ⟨bmoves a o b l, true, by have := bmoves_length a o b l; omega, fun k hk => ?_⟩
      unfold spec_RuleMoves.f impl_RuleMoves.f
      rw [reFew_eq a hs k (by omega), impl_isReachLine_eq a hs, hL]
      simp only [Option.bind_some, if_true]
      rw [ruMoves_eq a h1 h10 hl o b l k (by omega), movesBy_eq a h1 h10 hl o b l k (by omega)]
      exact ⟨rfl, rfl⟩
  obtain ⟨r, c, hlr, hk⟩ := hr
  unfold laws_FnExactRuleMoves.f
  split
  · rfl
  rw [show laws_toRule.f o b l = some (o, b, l) from rfl]
  simp only [Option.bind_some]
  rw [(hk 2000 (by omega)).1]
  simp only [Option.bind_some]
  rw [(hk 2000 (by omega)).2]
  simp only [Option.bind_some]
  rw [eqMoveS_same r (by omega) 2000 (by omega)]
  simp only [Option.bind_some, if_true, bne_self_eq_false]
  simp only [laws_FnExactRuleMoves.j0]
  rw [if_neg (by decide)]
  obtain ⟨y, hm, hy, hj⟩ := markMoveS_eq r (by omega) 1999 (by omega)
  rw [hm]
  simp only [Option.bind_some]
  rw [heldMoveS_eq y (by omega) (fun j h => hj j (by omega)) 1999 (by omega)]
  simp only [Option.bind_some]
  rw [if_neg (by omega), if_pos (by omega)]
  rw [show laws_toRule.f o b l = some (o, b, l) from rfl]
  simp only [Option.bind_some]
  rw [(hk 1999 (by omega)).2]
  simp only [Option.bind_some]
  rw [eqMoveS_same r (by omega) 1999 (by omega)]
  simp only [Option.bind_some, if_true, bne_self_eq_false]
  simp only [laws_FnExactRuleMoves.j1]
  rw [if_neg (by decide), heldMoveS_eq y (by omega) (fun j h => hj j (by omega)) 1998 (by omega)]
  simp only [Option.bind_some]
  rw [if_neg (by omega), if_pos (by omega)]
end Go.Proofs.YtjleaiknpbihcaaDoor.Pure
