/- FnExactMakeByRule without Go: for every text that memory holds and all other arguments, the program's MakeByRule is the reference's. -/
import Derived.Test.YtjleaiknpbihcaaDoorLArulemoves
import Derived.Test.YtjleaiknpbihcaaDoorLAmake
import Derived.Test.YtjleaiknpbihcaaDoorXA2
import Derived.Test.YtjleaiknpbihcaaDoorXA39
import Derived.Test.YtjleaiknpbihcaaDoorXA46
import Derived.Test.YtjleaiknpbihcaaDoorXA47
import Derived.Test.YtjleaiknpbihcaaDoorXA48
namespace Go.Proofs.YtjleaiknpbihcaaDoor.Pure
set_option linter.unusedVariables false
set_option linter.unusedSimpArgs false
open Go Go.RowKit Go.Proofs.YtjleaiknpbihcaaDoorW.PrintWords Go.Proofs.YtjleaiknpbihcaaDoor.XA Go.Proofs.YtjleaiknpbihcaaDoorB
theorem FnExactMakeByRule (a : ByteArray) (f t : Int) (o b l : Bool) (hs : a.size ≤ 140737488351232) (_ : (Lit.int .i64 f).wf = true) (_ : (Lit.int .i64 t).wf = true) : ∃ k, laws_FnExactMakeByRule.f k a f t o b l = some true := by
  refine ⟨2000, ?_⟩
  have hr : ∃ r, spec_MakeByRule.f 2000 a f t o b l = some r ∧ impl_MakeByRule.f 2000 a f t o b l = some r := by
    unfold spec_MakeByRule.f impl_MakeByRule.f impl_CanByRule.f
    rw [reFew_eq a hs 2000 (by omega), impl_isReachLine_eq a hs]
    simp only [Option.bind_some]
    cases hL : isLine 10 a with
    | false => exact ⟨_, rfl, rfl⟩
    | true =>
      obtain ⟨h1, h10, hl⟩ := isLine_size hL
      simp only [if_true]
      rw [ruCan_eq a h1 h10 hl f t o b l 2000 (by omega), movesBy_eq a h1 h10 hl o b l 2000 (by omega)]
      simp only [Option.bind_some]
      rw [contains_eq _ (by have := bmoves_length a o b l; omega) f t 2000 (by have := bmoves_length a o b l; omega), bmoves_can a (by omega)]
      simp only [Option.bind_some]
      cases hc : bcan a o b l f t with
      | false => exact ⟨_, rfl, rfl⟩
      | true =>
        simp only [if_true]
        obtain ⟨f0, f1, t0, t1, hne⟩ := bcan_in (by omega) hc
        rw [liMake_eq a (by omega) f t f0 f1 t0 t1 hne, impl_made_eq a (by omega) f t f0 f1 t0 t1 hne]
        exact ⟨_, rfl, rfl⟩
  obtain ⟨r, h1, h2⟩ := hr
  unfold laws_FnExactMakeByRule.f
  split
  · rfl
  rw [show laws_toMove.f f t = some (f, t) from rfl]
  simp only [Option.bind_some]
  rw [show laws_toRule.f o b l = some (o, b, l) from rfl]
  simp only [Option.bind_some]
  rw [h1, h2]
  simp
end Go.Proofs.YtjleaiknpbihcaaDoor.Pure
