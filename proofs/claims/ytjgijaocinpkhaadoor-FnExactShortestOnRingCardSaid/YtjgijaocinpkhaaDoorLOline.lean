/- What is a line, for the reference and for the program, for all texts of any length that memory holds. -/
import Derived.Test.YtjgijaocinpkhaaDoorXO1
import Derived.Test.YtjgijaocinpkhaaDoorXO5
import Derived.Test.YtjgijaocinpkhaaDoorB
import Derived.Test.YtjgijaocinpkhaaDoorLOline0
namespace Go.Proofs.YtjgijaocinpkhaaDoor.XO
set_option linter.unusedVariables false
set_option linter.unusedSimpArgs false
open Go Go.RowKit Go.Proofs.YtjgijaocinpkhaaDoorW.PrintWords Go.Proofs.YtjgijaocinpkhaaDoorB

theorem liGood_l0 (a : ByteArray) (hs : a.size ≤ 140737488351232) : ∀ (d i k : Nat), i + d = a.size → d < k → spec_liGood.l0 k a (i : Int) = some ((a.data.toList.drop i).all sgn) := by
  intro d
  induction d with
  | zero =>
    intro i k hi hk
    obtain ⟨k, rfl⟩ : ∃ m, k = m + 1 := ⟨k - 1, by omega⟩
    simp only [spec_liGood.l0]
    rw [if_neg (by omega), List.drop_of_length_le (by rw [data_length]; omega)]
    rfl
  | succ d ih =>
    intro i k hi hk
    obtain ⟨k, rfl⟩ : ∃ m, k = m + 1 := ⟨k - 1, by omega⟩
    obtain ⟨c, hd, hb⟩ := bt_eq a i (by omega)
    simp only [spec_liGood.l0]
    rw [if_pos (by omega), if_pos (by omega), hb, w64_succ (n := a.size) (by omega) hs, ih (i + 1) k (by omega) (by omega), hd, List.all_cons]
    simp only [is84, is70, is46]
    by_cases h1 : c = 84
    · subst h1; simp [sgn]
    by_cases h2 : c = 70
    · subst h2; simp [sgn]
    by_cases h3 : c = 46
    · subst h3; simp [sgn]
    simp [h1, h2, h3, sgn]
theorem liGood_eq (a : ByteArray) (hs : a.size ≤ 140737488351232) (k : Nat) (hk : 20 ≤ k) : spec_liGood.f k a = some (isLine 12 a) := by
  unfold spec_liGood.f isLine
  rw [l1In_eq]
  simp only [Option.bind_some]
  by_cases h1 : 1 ≤ a.size
  · by_cases h2 : a.size ≤ 12
    · have h := liGood_l0 a hs a.size 0 k (by omega) (by omega)
      rw [List.drop_zero] at h
      rw [if_pos (by simp; omega)]
      simp only [h1, h2, decide_true, Bool.true_and]
      exact h
    · rw [if_neg (by simp; omega)]
      simp [h2]
  · rw [if_neg (by simp; omega)]
    simp [h1]
theorem isLineOf_eq (a : ByteArray) (m : Nat) (hs : a.size ≤ 140737488351232) : impl_isLineOf.f a (m : Int) = some (isLine m a) := by
  unfold impl_isLineOf.f isLine
  rw [within_eq]
  simp only [Option.bind_some]
  by_cases h1 : 1 ≤ a.size
  · by_cases h2 : a.size ≤ m
    · rw [if_pos (by simp; omega)]
      unfold strings_Trim.f
      rw [if_pos ⟨by omega, by decide, by decide⟩]
      simp only [Option.bind_some, h1, h2, decide_true, Bool.true_and]
      exact congrArg some (trim_sgn _)
    · rw [if_neg (by simp; omega)]
      simp [h2]
  · rw [if_neg (by simp; omega)]
    simp [h1]
end Go.Proofs.YtjgijaocinpkhaaDoor.XO
