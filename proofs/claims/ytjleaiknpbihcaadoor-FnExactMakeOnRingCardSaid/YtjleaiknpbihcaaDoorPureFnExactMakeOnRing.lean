/- FnExactMakeOnRing without Go: for every text that memory holds and all other arguments, the program's MakeOnRing is the reference's. -/
import Derived.Test.YtjleaiknpbihcaaDoorLAringcan
import Derived.Test.YtjleaiknpbihcaaDoorLAmake
import Derived.Test.YtjleaiknpbihcaaDoorXA4
import Derived.Test.YtjleaiknpbihcaaDoorXA6
namespace Go.Proofs.YtjleaiknpbihcaaDoor.Pure
set_option linter.unusedVariables false
set_option linter.unusedSimpArgs false
open Go Go.RowKit Go.Proofs.YtjleaiknpbihcaaDoorW.PrintWords Go.Proofs.YtjleaiknpbihcaaDoor.XA Go.Proofs.YtjleaiknpbihcaaDoorB
theorem FnExactMakeOnRing (a : ByteArray) (f t : Int) (hs : a.size ≤ 140737488351232) (_ : (Lit.int .i64 f).wf = true) (_ : (Lit.int .i64 t).wf = true) : ∃ k, laws_FnExactMakeOnRing.f k a f t = some true := by
  refine ⟨2000, ?_⟩
  have hr : ∃ r, spec_MakeOnRing.f 2000 a f t = some r ∧ impl_MakeOnRing.f 2000 a f t = some r := by
    unfold spec_MakeOnRing.f impl_MakeOnRing.f
    rw [ciGood_eq a hs 2000 (by omega), impl_IsRing_eq a hs]
    simp only [Option.bind_some]
    cases hL : isRing a with
    | false => exact ⟨_, rfl, rfl⟩
    | true =>
      obtain ⟨h3, h9, hl⟩ := isRing_size hL
      simp only [if_true]
      rw [ciCan_eq a h3 h9 f t 2000 (by omega), canOnRing_eq a h3 h9 f t 2000 (by omega)]
      simp only [Option.bind_some]
      cases hc : rcan a f t with
      | false => exact ⟨_, rfl, rfl⟩
      | true =>
        simp only [if_true]
        obtain ⟨f0, f1, t0, t1, hne⟩ := rcan_in hc
        rw [liMake_eq a (by omega) f t f0 f1 t0 t1 hne, impl_made_eq a (by omega) f t f0 f1 t0 t1 hne]
        exact ⟨_, rfl, rfl⟩
  obtain ⟨r, h1, h2⟩ := hr
  unfold laws_FnExactMakeOnRing.f
  split
  · rfl
  rw [show laws_toMove.f f t = some (f, t) from rfl]
  simp only [Option.bind_some]
  rw [h1, h2]
  simp
end Go.Proofs.YtjleaiknpbihcaaDoor.Pure
