/- FnExactMakeMove without Go: for every text that memory holds and all other arguments, the program's MakeMove is the reference's. -/
import Derived.Test.YtjleaiknpbihcaaDoorLAgoal
import Derived.Test.YtjleaiknpbihcaaDoorLAmake
import Derived.Test.YtjleaiknpbihcaaDoorXA3
import Derived.Test.YtjleaiknpbihcaaDoorXA4
import Derived.Test.YtjleaiknpbihcaaDoorXA6
namespace Go.Proofs.YtjleaiknpbihcaaDoor.Pure
set_option linter.unusedVariables false
set_option linter.unusedSimpArgs false
open Go Go.RowKit Go.Proofs.YtjleaiknpbihcaaDoorW.PrintWords Go.Proofs.YtjleaiknpbihcaaDoor.XA Go.Proofs.YtjleaiknpbihcaaDoorB
theorem FnExactMakeMove (a : ByteArray) (f t : Int) (hs : a.size ≤ 140737488351232) (_ : (Lit.int .i64 f).wf = true) (_ : (Lit.int .i64 t).wf = true) : ∃ k, laws_FnExactMakeMove.f k a f t = some true := by
  refine ⟨2000, ?_⟩
  have hr : ∃ r, spec_MakeMove.f 2000 a f t = some r ∧ impl_MakeMove.f a f t = some r := by
    unfold spec_MakeMove.f impl_MakeMove.f impl_IsLine.f
    rw [liGood_eq a hs 2000 (by omega), show impl_isLineOf.f a 12 = some (isLine 12 a) from isLineOf_eq a 12 hs]
    simp only [Option.bind_some]
    cases hL : isLine 12 a with
    | false => exact ⟨_, rfl, rfl⟩
    | true =>
      obtain ⟨h1, h12, hl⟩ := isLine_size hL
      simp only [if_true]
      rw [liCan_eq a h1 (by omega) f t 2000 (by omega), impl_can_eq a h1 (by omega) f t]
      simp only [Option.bind_some]
      by_cases hc : canP a f t
      case neg => rw [decide_eq_false hc]; exact ⟨_, rfl, rfl⟩
      rw [decide_eq_true hc]
      simp only [if_true]
      obtain ⟨f0, f1, t0, t1, _, hd⟩ := hc
      have hne : f ≠ t := by omega
      rw [liMake_eq a (by omega) f t f0 f1 t0 t1 hne, impl_made_eq a (by omega) f t f0 f1 t0 t1 hne]
      exact ⟨_, rfl, rfl⟩
  obtain ⟨r, h1, h2⟩ := hr
  unfold laws_FnExactMakeMove.f
  split
  · rfl
  rw [show laws_toMove.f f t = some (f, t) from rfl]
  simp only [Option.bind_some]
  rw [h1, h2]
  simp
end Go.Proofs.YtjleaiknpbihcaaDoor.Pure
