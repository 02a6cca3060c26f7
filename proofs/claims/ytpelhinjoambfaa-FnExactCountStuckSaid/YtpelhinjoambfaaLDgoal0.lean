/- The sign at a place of a line: for all texts and all numbers. -/
import Derived.Test.YtpelhinjoambfaaXD1
import Derived.Test.YtpelhinjoambfaaLDline0
namespace Go.Proofs.Ytpelhinjoambfaa.XD
set_option linter.unusedVariables false
set_option linter.unusedSimpArgs false
open Go Go.RowKit Go.Proofs.YtpelhinjoambfaaW.PrintWords Go.Proofs.YtpelhinjoambfaaB

/-- the sign at a place, 0 outside -/
def sg (a : ByteArray) (i : Int) : Int := if 0 ≤ i ∧ i < (a.size : Int) then bt a i else 0
theorem impl_at_eq (a : ByteArray) (i : Int) : impl_at.f a i = some (sg a i) := by
  unfold impl_at.f sg
  by_cases h0 : i < 0
  · rw [if_pos h0, if_neg (by omega)]
  · rw [if_neg h0]
    by_cases h1 : i ≥ (a.size : Int)
    · rw [if_pos h1, if_neg (by omega)]
    · rw [if_neg h1, if_pos (by omega), if_pos (by omega), if_pos (by omega)]
theorem sg_in {a : ByteArray} {i : Int} (h0 : 0 ≤ i) (h1 : i < (a.size : Int)) : sg a i = bt a i := if_pos ⟨h0, h1⟩
theorem sg_is {a : ByteArray} {i c : Int} (h : sg a i = c) (hc : c ≠ 0) : 0 ≤ i ∧ i < (a.size : Int) ∧ bt a i = c := by
  unfold sg at h
  split at h
  · rename_i hi
    exact ⟨hi.1, hi.2, h⟩
  · exact absurd h.symm hc
end Go.Proofs.Ytpelhinjoambfaa.XD
