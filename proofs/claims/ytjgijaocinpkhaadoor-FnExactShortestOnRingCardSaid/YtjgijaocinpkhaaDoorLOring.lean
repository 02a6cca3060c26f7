/- What is a ring, for the reference and for the program, for all texts of any length that memory holds. -/
import Derived.Test.YtjgijaocinpkhaaDoorXO1
import Derived.Test.YtjgijaocinpkhaaDoorXO5
import Derived.Test.YtjgijaocinpkhaaDoorLOline
namespace Go.Proofs.YtjgijaocinpkhaaDoor.XO
set_option linter.unusedVariables false
set_option linter.unusedSimpArgs false
open Go Go.RowKit Go.Proofs.YtjgijaocinpkhaaDoorW.PrintWords Go.Proofs.YtjgijaocinpkhaaDoorB

theorem isRing_eq (a : ByteArray) : isRing a = (isLine 12 a && (decide (3 ≤ a.size) && decide (a.size ≤ 9))) := by
  unfold isRing isLine
  by_cases h1 : 3 ≤ a.size <;> by_cases h2 : a.size ≤ 9 <;> by_cases h3 : 1 ≤ a.size <;> by_cases h4 : a.size ≤ 12 <;> simp [h1, h2, h3, h4] <;> omega
theorem ciGood_eq (a : ByteArray) (hs : a.size ≤ 140737488351232) (k : Nat) (hk : 20 ≤ k) : spec_ciGood.f k a = some (isRing a) := by
  unfold spec_ciGood.f
  rw [liGood_eq a hs k hk, l1In_eq, isRing_eq]
  simp only [Option.bind_some]
  cases isLine 12 a
  · rfl
  · simp only [if_true, Bool.true_and]
    have e1 : decide ((3 : Int) ≤ (a.size : Int)) = decide (3 ≤ a.size) := by simp; omega
    have e2 : decide ((a.size : Int) ≤ 9) = decide (a.size ≤ 9) := by simp; omega
    rw [e1, e2]
theorem impl_IsRing_eq (a : ByteArray) (hs : a.size ≤ 140737488351232) : impl_IsRing.f a = some (isRing a) := by
  unfold impl_IsRing.f isRing
  rw [show impl_isLineOf.f a 9 = some (isLine 9 a) from isLineOf_eq a 9 hs]
  simp only [Option.bind_some]
  have e1 : decide ((a.size : Int) ≥ 3) = decide (3 ≤ a.size) := by simp; omega
  rw [e1]
  cases isLine 9 a
  · simp
  · simp
theorem isRing_size {a : ByteArray} (h : isRing a = true) : 3 ≤ a.size ∧ a.size ≤ 9 ∧ a.data.toList.all sgn = true := by
  unfold isRing at h
  simp only [Bool.and_eq_true, decide_eq_true_eq] at h
  exact ⟨h.1, (isLine_size h.2).2.1, (isLine_size h.2).2.2⟩
end Go.Proofs.YtjgijaocinpkhaaDoor.XO
