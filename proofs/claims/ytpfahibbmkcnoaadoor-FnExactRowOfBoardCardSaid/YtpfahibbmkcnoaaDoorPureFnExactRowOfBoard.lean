/- FnExactRowOfBoard without Go: for every text that memory holds and every number, the program's RowOfBoard is the reference's. -/
import Derived.Test.YtpfahibbmkcnoaaDoorLBboardof
import Derived.Test.YtpfahibbmkcnoaaDoorXB2
namespace Go.Proofs.YtpfahibbmkcnoaaDoor.Pure
set_option linter.unusedVariables false
set_option linter.unusedSimpArgs false
open Go Go.RowKit Go.Proofs.YtpfahibbmkcnoaaDoorW.PrintWords Go.Proofs.YtpfahibbmkcnoaaDoor.XB Go.Proofs.YtpfahibbmkcnoaaDoorB
theorem rowOf_both (a : ByteArray) (y : Int) : ∃ q, spec_RowOfBoard.f 300 a y = some q ∧ impl_RowOfBoard.f a y = some q := by
  unfold spec_RowOfBoard.f impl_RowOfBoard.f
  rw [boRows_eq a 300 (by omega), impl_IsBoard_eq a]
  simp only [Option.bind_some]
  cases ho : okRows (rowsOf a) with
  | false => exact ⟨_, rfl, rfl⟩
  | true =>
    obtain ⟨w, h1, h2, h3, h4, h5, h6, h7, h8, h9⟩ := board_is ho
    have hr := rowsOf_ne a
    simp only [if_true]
    rw [boardOf_eq a (by omega), h4]
    simp only [Option.bind_some]
    rw [board_high_eq h1 h2 h5 h8]
    simp only [Option.bind_some]
    rw [w64 (x := ((rowsOf a).length : Int) - 1) (by omega) (by omega), l1In_eq, within_eq]
    simp only [Option.bind_some]
    by_cases hy : 0 ≤ y ∧ y ≤ ((rowsOf a).length : Int) - 1
    · rw [if_pos (by simp; omega), if_pos (by omega), if_pos (by omega), if_pos (by simp; omega), split_eq a (by omega)]
      simp only [Option.bind_some]
      rw [if_pos (by omega), if_pos (by omega)]
      exact ⟨_, rfl, rfl⟩
    · rw [if_neg (by simp; omega), if_neg (by simp; omega)]
      exact ⟨_, rfl, rfl⟩
theorem FnExactRowOfBoard (a : ByteArray) (y : Int) (hs : a.size ≤ 140737488351232) (_ : (Lit.int .i64 y).wf = true) : ∃ k, laws_FnExactRowOfBoard.f k a y = some true := by
  refine ⟨300, ?_⟩
  unfold laws_FnExactRowOfBoard.f
  split
  · rfl
  obtain ⟨q, h1, h2⟩ := rowOf_both a y
  rw [h1, h2]
  simp only [Option.bind_some, if_true, bne_self_eq_false]
  rfl
end Go.Proofs.YtpfahibbmkcnoaaDoor.Pure
