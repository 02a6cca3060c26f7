/- FnExactIsJump without Go: for every text that memory holds and all other arguments, the program's IsJump is the reference's. -/
import Derived.Test.YtjleaiknpbihcaaDoorLAgoal
import Derived.Test.YtjleaiknpbihcaaDoorXA3
import Derived.Test.YtjleaiknpbihcaaDoorXA4
import Derived.Test.YtjleaiknpbihcaaDoorXA5
namespace Go.Proofs.YtjleaiknpbihcaaDoor.Pure
set_option linter.unusedVariables false
set_option linter.unusedSimpArgs false
open Go Go.RowKit Go.Proofs.YtjleaiknpbihcaaDoorW.PrintWords Go.Proofs.YtjleaiknpbihcaaDoor.XA Go.Proofs.YtjleaiknpbihcaaDoorB
theorem FnExactIsJump (a : ByteArray) (f t : Int) (hs : a.size ≤ 140737488351232) (_ : (Lit.int .i64 f).wf = true) (_ : (Lit.int .i64 t).wf = true) : ∃ k, laws_FnExactIsJump.f k a f t = some true := by
  refine ⟨2000, ?_⟩
  have hr : ∃ r, spec_IsJump.f 2000 a f t = some r ∧ impl_IsJump.f a f t = some r := by
    unfold spec_IsJump.f impl_IsJump.f impl_IsLine.f
    rw [liGood_eq a hs 2000 (by omega), show impl_isLineOf.f a 12 = some (isLine 12 a) from isLineOf_eq a 12 hs]
    simp only [Option.bind_some]
    cases hL : isLine 12 a with
    | false => exact ⟨_, rfl, rfl⟩
    | true =>
      obtain ⟨h1, h12, hl⟩ := isLine_size hL
      simp only [if_true]
      rw [liCan_eq a h1 (by omega) f t 2000 (by omega), impl_can_eq a h1 (by omega) f t]
      simp only [Option.bind_some]
      by_cases hc : canP a f t
      case neg => rw [decide_eq_false hc]; exact ⟨_, rfl, rfl⟩
      rw [decide_eq_true hc]
      simp only [if_true]
      obtain ⟨f0, f1, t0, t1, _, hd⟩ := hc
      have hd : t = f + 1 ∨ t = f + 2 ∨ t = f + (-1) ∨ t = f + (-2) := by omega
      have w : ∀ x : Int, -100 ≤ x → x ≤ 100 → wrap64 x = x := fun x h1 h2 => w64 (by omega) (by omega)
      unfold spec_l1Abs.f spec_l1Most.f impl_Move_isJump.f
      rcases hd with rfl | rfl | rfl | rfl
      · rw [show f + 1 - f = 1 from by omega, show f - (f + 1) = -1 from by omega, w 1 (by omega) (by omega), w (-1) (by omega) (by omega)]
        exact ⟨(false, true), by decide, by decide⟩
      · rw [show f + 2 - f = 2 from by omega, show f - (f + 2) = -2 from by omega, w 2 (by omega) (by omega), w (-2) (by omega) (by omega)]
        exact ⟨(true, true), by decide, by decide⟩
      · rw [show f + (-1) - f = -1 from by omega, show f - (f + (-1)) = 1 from by omega, w 1 (by omega) (by omega), w (-1) (by omega) (by omega), show -(-1 : Int) = 1 from rfl, w 1 (by omega) (by omega)]
        exact ⟨(false, true), by decide, by decide⟩
      · rw [show f + (-2) - f = -2 from by omega, show f - (f + (-2)) = 2 from by omega, w 2 (by omega) (by omega), w (-2) (by omega) (by omega), show -(-2 : Int) = 2 from rfl, w 2 (by omega) (by omega)]
        exact ⟨(true, true), by decide, by decide⟩
  obtain ⟨r, h1, h2⟩ := hr
  unfold laws_FnExactIsJump.f
  split
  · rfl
  rw [show laws_toMove.f f t = some (f, t) from rfl]
  simp only [Option.bind_some]
  rw [h1, h2]
  simp
end Go.Proofs.YtjleaiknpbihcaaDoor.Pure
