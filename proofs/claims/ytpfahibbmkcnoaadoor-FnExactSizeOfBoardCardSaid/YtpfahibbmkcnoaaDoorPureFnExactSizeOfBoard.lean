/- FnExactSizeOfBoard without Go: for every text that memory holds, the program's SizeOfBoard is the reference's. -/
import Derived.Test.YtpfahibbmkcnoaaDoorLBboardof
import Derived.Test.YtpfahibbmkcnoaaDoorXB2
namespace Go.Proofs.YtpfahibbmkcnoaaDoor.Pure
set_option linter.unusedVariables false
set_option linter.unusedSimpArgs false
open Go Go.RowKit Go.Proofs.YtpfahibbmkcnoaaDoorW.PrintWords Go.Proofs.YtpfahibbmkcnoaaDoor.XB Go.Proofs.YtpfahibbmkcnoaaDoorB
theorem sizeOf_both (a : ByteArray) : ∃ q, spec_SizeOfBoard.f 300 a = some q ∧ impl_SizeOfBoard.f a = some q := by
  unfold spec_SizeOfBoard.f impl_SizeOfBoard.f
  rw [boRows_eq a 300 (by omega), impl_IsBoard_eq a]
  simp only [Option.bind_some]
  cases ho : okRows (rowsOf a) with
  | false => exact ⟨_, rfl, rfl⟩
  | true =>
    obtain ⟨w, h1, h2, h3, h4, h5, h6, h7, h8, h9⟩ := board_is ho
    have hr := rowsOf_ne a
    have h0 : rdOf ByteArray.empty (rowsOf a) 0 = (rowsOf a).headD ⟨#[]⟩ := by
      cases h : rowsOf a with
      | nil => rw [h] at hr; simp at hr
      | cons r l => rfl
    simp only [if_true]
    rw [boardOf_eq a (by omega), h4, h0, h3]
    simp only [Option.bind_some]
    rw [board_high_eq h1 h2 h5 h8, if_pos (by omega)]
    exact ⟨_, rfl, rfl⟩
theorem FnExactSizeOfBoard (a : ByteArray) (hs : a.size ≤ 140737488351232) : ∃ k, laws_FnExactSizeOfBoard.f k a = some true := by
  refine ⟨300, ?_⟩
  unfold laws_FnExactSizeOfBoard.f
  split
  · rfl
  obtain ⟨q, h1, h2⟩ := sizeOf_both a
  rw [h1, h2]
  simp only [Option.bind_some, if_true, bne_self_eq_false]
  rfl
end Go.Proofs.YtpfahibbmkcnoaaDoor.Pure
