/- FnExactFirstLine without Go: for all counts, the program's FirstLine is the reference's. -/
import Derived.Test.YticlpfeeokghnaaLAtimes
import Derived.Test.YticlpfeeokghnaaXA1
import Derived.Test.YticlpfeeokghnaaXA4
import Derived.Test.YticlpfeeokghnaaXA5
import Derived.Test.YticlpfeeokghnaaXA6
namespace Go.Proofs.Yticlpfeeokghnaa.Pure
set_option linter.unusedVariables false
set_option linter.unusedSimpArgs false
open Go Go.RowKit Go.Proofs.YticlpfeeokghnaaW.PrintWords Go.Proofs.Yticlpfeeokghnaa.XA Go.Proofs.YticlpfeeokghnaaB
theorem in_eq (a b c : Int) : spec_l1In.f a b c = some (decide (b ≤ a) && decide (a ≤ c)) := by
  unfold spec_l1In.f
  by_cases h : b ≤ a <;> simp [h]
theorem within_eq' (a b c : Int) : impl_within.f a b c = some (decide (b ≤ a) && decide (a ≤ c)) := by
  unfold impl_within.f
  by_cases h : b ≤ a <;> simp [h]
theorem all_eq (x y z : Int) : spec_l1All.f 20 [x, y, z] 0 12 = some (decide (0 ≤ x ∧ x ≤ 12) && (decide (0 ≤ y ∧ y ≤ 12) && decide (0 ≤ z ∧ z ≤ 12))) := by
  have e : ∀ v : Int, (decide ((0 : Int) ≤ v) && decide (v ≤ 12)) = decide (0 ≤ v ∧ v ≤ 12) := fun v => by rw [Bool.eq_iff_iff]; simp
  unfold spec_l1All.f
  simp only [spec_l1All.l0, in_eq, e, Option.bind_some, show (([x, y, z] : List Int).length : Int) = 3 from rfl, show wrap64 (0 + 1) = 1 from by decide +kernel, show wrap64 (1 + 1) = 2 from by decide +kernel, show wrap64 (2 + 1) = 3 from by decide +kernel, show rd ([x, y, z] : List Int) 0 = x from rfl, show rd ([x, y, z] : List Int) 1 = y from rfl, show rd ([x, y, z] : List Int) 2 = z from rfl]
  generalize decide (0 ≤ x ∧ x ≤ 12) = p
  generalize decide (0 ≤ y ∧ y ≤ 12) = q
  generalize decide (0 ≤ z ∧ z ≤ 12) = r
  cases p <;> cases q <;> cases r <;> rfl
def three3 (x y z : Int) : Bool := decide (0 ≤ x ∧ x ≤ 12) && (decide (0 ≤ y ∧ y ≤ 12) && (decide (0 ≤ z ∧ z ≤ 12) && decide (1 ≤ wrap64 (wrap64 (x + y) + z) ∧ wrap64 (wrap64 (x + y) + z) ≤ 12)))
theorem spec_three (x y z : Int) : spec_liThree.f 20 x y z = some (three3 x y z) := by
  have e : ∀ v : Int, (decide ((1 : Int) ≤ v) && decide (v ≤ 12)) = decide (1 ≤ v ∧ v ≤ 12) := fun v => by rw [Bool.eq_iff_iff]; simp
  unfold spec_liThree.f three3
  rw [all_eq]
  simp only [Option.bind_some, in_eq, e]
  generalize decide (0 ≤ x ∧ x ≤ 12) = p
  generalize decide (0 ≤ y ∧ y ≤ 12) = q
  generalize decide (0 ≤ z ∧ z ≤ 12) = r
  cases p <;> cases q <;> cases r <;> rfl
theorem impl_three (x y z : Int) : impl_areCounts.f x y z 12 = some (three3 x y z) := by
  have e : ∀ v : Int, (decide ((0 : Int) ≤ v) && decide (v ≤ 12)) = decide (0 ≤ v ∧ v ≤ 12) := fun v => by rw [Bool.eq_iff_iff]; simp
  have e1 : ∀ v : Int, (decide ((1 : Int) ≤ v) && decide (v ≤ 12)) = decide (1 ≤ v ∧ v ≤ 12) := fun v => by rw [Bool.eq_iff_iff]; simp
  unfold impl_areCounts.f three3
  simp only [Option.bind_some, within_eq', e, e1]
  generalize decide (0 ≤ x ∧ x ≤ 12) = p
  generalize decide (0 ≤ y ∧ y ≤ 12) = q
  generalize decide (0 ≤ z ∧ z ≤ 12) = r
  cases p <;> cases q <;> cases r <;> rfl
theorem FnExactFirstLine (x y z : Int) (_ : (Lit.int .i64 x).wf = true) (_ : (Lit.int .i64 y).wf = true) (_ : (Lit.int .i64 z).wf = true) : ∃ k, laws_FnExactFirstLine.f k x y z = some true := by
  refine ⟨20, ?_⟩
  have hr : ∃ r, spec_FirstLine.f 20 x y z = some r ∧ impl_FirstLine.f x y z = some r := by
    unfold spec_FirstLine.f impl_FirstLine.f
    rw [spec_three, impl_three]
    simp only [Option.bind_some]
    cases h : three3 x y z with
    | false => exact ⟨_, rfl, rfl⟩
    | true =>
      unfold three3 at h
      simp only [Bool.and_eq_true, decide_eq_true_eq] at h
      obtain ⟨h1, h2, h3, _⟩ := h
      obtain ⟨i, rfl⟩ : ∃ i : Nat, x = (i : Int) := ⟨x.toNat, by omega⟩
      obtain ⟨j, rfl⟩ : ∃ j : Nat, y = (j : Int) := ⟨y.toNat, by omega⟩
      obtain ⟨l, rfl⟩ : ∃ l : Nat, z = (l : Int) := ⟨z.toNat, by omega⟩
      simp only [if_true]
      unfold spec_liFirst.f impl_first.f impl_ordered.f
      rw [show Utf8.encode 84 = (⟨#[84]⟩ : ByteArray) from by decide, show Utf8.encode 70 = (⟨#[70]⟩ : ByteArray) from by decide]
      rw [liTimes_eq 84 i 20 (by omega) (by omega), liTimes_eq 46 j 20 (by omega) (by omega), liTimes_eq 70 l 20 (by omega) (by omega), repeat_eq 84 i (by omega), repeat_eq 46 j (by omega), repeat_eq 70 l (by omega)]
      simp only [Option.bind_some]
      rw [if_pos (by rw [reps_size, reps_size]; omega), if_pos (by rw [size_append, reps_size, reps_size, reps_size]; omega)]
      exact ⟨_, rfl, rfl⟩
  obtain ⟨r, h1, h2⟩ := hr
  unfold laws_FnExactFirstLine.f
  rw [h1, h2]
  simp
end Go.Proofs.Yticlpfeeokghnaa.Pure
