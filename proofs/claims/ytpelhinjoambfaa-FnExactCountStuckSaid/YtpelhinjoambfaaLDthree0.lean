/- Whether there are numbers of toads, gaps and frogs, for the reference and for the program: for all numbers. -/
import Derived.Test.YtpelhinjoambfaaXD1
import Derived.Test.YtpelhinjoambfaaXD4
import Derived.Test.YtpelhinjoambfaaB
namespace Go.Proofs.Ytpelhinjoambfaa.XD
set_option linter.unusedVariables false
set_option linter.unusedSimpArgs false
open Go Go.RowKit Go.Proofs.YtpelhinjoambfaaW.PrintWords Go.Proofs.YtpelhinjoambfaaB
theorem in_eq3 (a b c : Int) : spec_l1In.f a b c = some (decide (b ≤ a ∧ a ≤ c)) := by
  unfold spec_l1In.f
  by_cases h : b ≤ a <;> simp [h]
theorem within_eq3 (a b c : Int) : impl_within.f a b c = some (decide (b ≤ a ∧ a ≤ c)) := by
  unfold impl_within.f
  by_cases h : b ≤ a <;> simp [h]
theorem all_eq3 (x y z lo hi : Int) : spec_l1All.f 20 [x, y, z] lo hi = some (decide (lo ≤ x ∧ x ≤ hi) && (decide (lo ≤ y ∧ y ≤ hi) && decide (lo ≤ z ∧ z ≤ hi))) := by
  unfold spec_l1All.f
  simp only [spec_l1All.l0, in_eq3, Option.bind_some, show (([x, y, z] : List Int).length : Int) = 3 from rfl, show wrap64 (0 + 1) = 1 from by decide +kernel, show wrap64 (1 + 1) = 2 from by decide +kernel, show wrap64 (2 + 1) = 3 from by decide +kernel, show rd ([x, y, z] : List Int) 0 = x from rfl, show rd ([x, y, z] : List Int) 1 = y from rfl, show rd ([x, y, z] : List Int) 2 = z from rfl]
  generalize decide (lo ≤ x ∧ x ≤ hi) = p
  generalize decide (lo ≤ y ∧ y ≤ hi) = q
  generalize decide (lo ≤ z ∧ z ≤ hi) = r
  cases p <;> cases q <;> cases r <;> rfl
def threeB (m x y z : Int) : Bool := decide (0 ≤ x ∧ x ≤ m) && (decide (0 ≤ y ∧ y ≤ m) && (decide (0 ≤ z ∧ z ≤ m) && decide (1 ≤ wrap64 (wrap64 (x + y) + z) ∧ wrap64 (wrap64 (x + y) + z) ≤ m)))
theorem threeB_is {m x y z : Int} (hm : m ≤ 1000) (h : threeB m x y z = true) : ∃ t g f : Nat, x = (t : Int) ∧ y = (g : Int) ∧ z = (f : Int) ∧ 1 ≤ t + g + f ∧ (t + g + f : Int) ≤ m := by
  unfold threeB at h
  simp only [Bool.and_eq_true, decide_eq_true_eq] at h
  obtain ⟨h1, h2, h3, h4⟩ := h
  have hw : wrap64 (wrap64 (x + y) + z) = x + y + z := by unfold wrap64; omega
  rw [hw] at h4
  exact ⟨x.toNat, y.toNat, z.toNat, by omega, by omega, by omega, by omega, by omega⟩
theorem impl_three3 (x y z m : Int) : impl_areCounts.f x y z m = some (threeB m x y z) := by
  unfold impl_areCounts.f threeB
  simp only [Option.bind_some, within_eq3]
  generalize decide (0 ≤ x ∧ x ≤ m) = p
  generalize decide (0 ≤ y ∧ y ≤ m) = q
  generalize decide (0 ≤ z ∧ z ≤ m) = r
  cases p <;> cases q <;> cases r <;> rfl
end Go.Proofs.Ytpelhinjoambfaa.XD
