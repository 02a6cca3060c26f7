/- FnExactTurnRing without Go: for every text that memory holds and every number, the program's TurnRing is the reference's. -/
import Derived.Test.YtoaajkpcefgofaaDoorLAring
import Derived.Test.YtoaajkpcefgofaaDoorXA2
namespace Go.Proofs.YtoaajkpcefgofaaDoor.Pure
set_option linter.unusedVariables false
set_option linter.unusedSimpArgs false
open Go Go.RowKit Go.Proofs.YtoaajkpcefgofaaDoor.XA Go.Proofs.YtoaajkpcefgofaaDoorB
theorem FnExactTurnRing (a : ByteArray) (b : Int) (hs : a.size ≤ 140737488351232) (hb : (Lit.int .i64 b).wf = true) : ∃ k, laws_FnExactTurnRing.f k a b = some true := by
  refine ⟨100, ?_⟩
  unfold laws_FnExactTurnRing.f
  split
  · rfl
  have hi : impl_TurnRing.f a b = spec_TurnRing.f 100 a b := by
    unfold impl_TurnRing.f spec_TurnRing.f
    rw [ciGood_eq a hs 100 (by omega), impl_IsRing_eq a hs, l1In_eq, within_eq]
    rfl
  have hr : ∃ r, spec_TurnRing.f 100 a b = some r := by
    unfold spec_TurnRing.f
    rw [ciGood_eq a hs 100 (by omega), l1In_eq]
    simp only [Option.bind_some]
    cases hR : isRing a with
    | false => exact ⟨_, rfl⟩
    | true =>
      obtain ⟨h3, h9, _⟩ := isRing_size hR
      simp only [if_true]
      rw [w64 (x := (a.size : Int) - 1) (by omega) (by omega)]
      by_cases h : 0 ≤ b ∧ b ≤ (a.size : Int) - 1
      · rw [if_pos (by simp [h])]
        unfold spec_ciTurn.f
        rw [w64 (x := (a.size : Int) - b) (by omega) (by omega), if_pos (by omega), if_pos (by omega), if_pos (by rw [ByteArray.size_extract, ByteArray.size_extract]; omega)]
        exact ⟨_, rfl⟩
      · rw [if_neg (by simp; omega)]
        exact ⟨_, rfl⟩
  obtain ⟨r, hr⟩ := hr
  exact law_str _ _ r hr (hi.trans hr)
end Go.Proofs.YtoaajkpcefgofaaDoor.Pure
