/- What is a word, for the reference and for the program, for all texts of any length that memory holds. -/
import Derived.Test.YtoaajkpcefgofaaDoorXOW1
import Derived.Test.YtoaajkpcefgofaaDoorB
namespace Go.Proofs.YtoaajkpcefgofaaDoor.XOW
set_option linter.unusedVariables false
set_option linter.unusedSimpArgs false
open Go Go.RowKit Go.Proofs.YtoaajkpcefgofaaDoorW.PrintWords Go.Proofs.YtoaajkpcefgofaaDoorB

theorem woGood_l0 (a : ByteArray) (hs : a.size ≤ 140737488351232) : ∀ (d i k : Nat), i + d = a.size → d < k → spec_woGood.l0 k a (i : Int) = some ((a.data.toList.drop i).all tf) := by
  intro d
  induction d with
  | zero =>
    intro i k hi hk
    obtain ⟨k, rfl⟩ : ∃ m, k = m + 1 := ⟨k - 1, by omega⟩
    simp only [spec_woGood.l0]
    rw [if_neg (by omega), List.drop_of_length_le (by rw [data_length]; omega)]
    rfl
  | succ d ih =>
    intro i k hi hk
    obtain ⟨k, rfl⟩ : ∃ m, k = m + 1 := ⟨k - 1, by omega⟩
    obtain ⟨c, hd, hb⟩ := bt_eq a i (by omega)
    simp only [spec_woGood.l0]
    rw [if_pos (by omega), if_pos (by omega), hb, w64_succ (n := a.size) (by omega) hs, ih (i + 1) k (by omega) (by omega), hd, List.all_cons]
    simp only [is84, is70]
    by_cases h1 : c = 84
    · subst h1; simp [tf]
    by_cases h2 : c = 70
    · subst h2; simp [tf]
    simp [h1, h2, tf]
theorem woGood_eq (a : ByteArray) (hs : a.size ≤ 140737488351232) (k : Nat) (hk : 60 ≤ k) : spec_woGood.f k a = some (isWord a) := by
  unfold spec_woGood.f isWord
  by_cases h2 : a.size ≤ 40
  · have h := woGood_l0 a hs a.size 0 k (by omega) (by omega)
    rw [List.drop_zero] at h
    rw [if_neg (by omega)]
    simp only [h2, decide_true, Bool.true_and]
    exact h
  · rw [if_pos (by omega)]
    simp [h2]
theorem impl_IsWord_eq (a : ByteArray) (hs : a.size ≤ 140737488351232) : impl_IsWord.f a = some (isWord a) := by
  unfold impl_IsWord.f isWord
  by_cases h2 : a.size ≤ 40
  · rw [if_pos (by omega)]
    unfold strings_Trim.f
    rw [if_pos ⟨by omega, by decide, by decide⟩]
    simp only [Option.bind_some, h2, decide_true, Bool.true_and]
    exact congrArg some (trim_tf _)
  · rw [if_neg (by omega)]
    simp [h2]
end Go.Proofs.YtoaajkpcefgofaaDoor.XOW
