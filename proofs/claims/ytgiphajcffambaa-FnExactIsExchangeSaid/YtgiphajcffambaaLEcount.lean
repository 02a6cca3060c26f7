/- How many of a sign a text has, for the reference and for the program, for all texts that memory holds. -/
import Derived.Test.YtgiphajcffambaaXE1
import Derived.Test.YtgiphajcffambaaXE9
import Derived.Test.YtgiphajcffambaaLEline0
namespace Go.Proofs.Ytgiphajcffambaa.XE
set_option linter.unusedVariables false
set_option linter.unusedSimpArgs false
open Go Go.RowKit Go.Proofs.YtgiphajcffambaaW.PrintWords Go.Proofs.YtgiphajcffambaaB

theorem liCount_l0 (a : ByteArray) (hs : a.size ≤ 140737488351232) (c : UInt8) : ∀ (d i k n : Nat), i + d = a.size → d < k → n ≤ i → spec_liCount.l0 k a (c.toNat : Int) (n : Int) (i : Int) = some ((n + (a.data.toList.drop i).count c : Nat) : Int) := by
  intro d
  induction d with
  | zero =>
    intro i k n hi hk hn
    obtain ⟨k, rfl⟩ : ∃ m, k = m + 1 := ⟨k - 1, by omega⟩
    simp only [spec_liCount.l0]
    rw [if_neg (by omega), List.drop_of_length_le (by rw [data_length]; omega)]
    simp
  | succ d ih =>
    intro i k n hi hk hn
    obtain ⟨k, rfl⟩ : ∃ m, k = m + 1 := ⟨k - 1, by omega⟩
    obtain ⟨x, hd, hb⟩ := bt_eq a i (by omega)
    simp only [spec_liCount.l0]
    rw [if_pos (by omega), if_pos (by omega), hb, w64_succ (i := i) (n := a.size) (by omega) hs, w64_succ (i := n) (n := a.size) (by omega) hs, ih (i + 1) k (n + 1) (by omega) (by omega) (by omega), ih (i + 1) k n (by omega) (by omega) (by omega), hd, List.count_cons]
    simp only [byte_inj]
    by_cases h : x = c
    · subst h
      rw [if_pos rfl]
      simp
      omega
    · rw [if_neg h]
      simp [h]
theorem liCount_eq (a : ByteArray) (hs : a.size ≤ 140737488351232) (c : UInt8) (k : Nat) (hk : a.size < k) : spec_liCount.f k a (c.toNat : Int) = some ((a.data.toList.count c : Nat) : Int) := by
  have h := liCount_l0 a hs c a.size 0 k 0 (by omega) hk (by omega)
  rw [List.drop_zero, Nat.zero_add] at h
  exact h
theorem impl_count_eq (a : ByteArray) : impl_count.f a = some (((a.data.toList.count 84 : Nat) : Int), ((a.data.toList.count 46 : Nat) : Int), ((a.data.toList.count 70 : Nat) : Int)) := rfl
theorem counts_size (l : List UInt8) (h : l.all sgn = true) : l.count 84 + l.count 46 + l.count 70 = l.length := by
  induction l with
  | nil => rfl
  | cons c l ih =>
    simp only [List.all_cons, Bool.and_eq_true] at h
    have ih := ih h.2
    have hc := h.1
    unfold sgn at hc
    simp only [Bool.or_eq_true, beq_iff_eq] at hc
    rw [List.count_cons, List.count_cons, List.count_cons, List.length_cons]
    rcases hc with (rfl | rfl) | rfl <;> simp <;> omega
end Go.Proofs.Ytgiphajcffambaa.XE
