/- The first one of all turned rings, for the reference and for the program: the same. For all texts of at most 1000 signs. -/
import Derived.Test.YtpelhinjoambfaaB
import Derived.Test.YtpelhinjoambfaaXC1
import Derived.Test.YtpelhinjoambfaaXC4
namespace Go.Proofs.Ytpelhinjoambfaa.XC
set_option linter.unusedVariables false
set_option linter.unusedSimpArgs false
open Go Go.RowKit Go.Proofs.YtpelhinjoambfaaW.PrintWords Go.Proofs.YtpelhinjoambfaaB

theorem min_second {b t : ByteArray} (h : Op.bytesLess t.toList b.toList = true) : Lib.minS b t = t := by
  unfold Lib.minS
  rw [Lib.toList_data, Lib.toList_data] at h
  obtain ⟨h1, h2⟩ := less_not _ _ h
  rw [bytesLess_eq, decide_eq_false_iff_not] at h1
  rw [if_neg (fun h3 => h3.elim h1 (fun e => h2 e.symm))]
theorem min_first {b t : ByteArray} (h : ¬ Op.bytesLess t.toList b.toList = true) : Lib.minS b t = b := by
  unfold Lib.minS
  rw [Lib.toList_data, Lib.toList_data] at h
  rcases less_total _ _ (by simpa using h) with h1 | h1
  · rw [bytesLess_eq, decide_eq_true_eq] at h1
    rw [if_pos (.inl h1)]
  · rw [if_pos (.inr h1.symm)]
theorem turn_some (a : ByteArray) (hs : a.size ≤ 1000) (i : Nat) (hi : i ≤ a.size) : ∃ r, spec_ciTurn.f a (i : Int) = some r ∧ impl_ringBy.f a (i : Int) = some r := by
  unfold impl_ringBy.f spec_ciTurn.f
  rw [w64 (x := (a.size : Int) - i) (by omega) (by omega), if_pos (by omega), if_pos (by omega), if_pos (by rw [ByteArray.size_extract, ByteArray.size_extract]; omega)]
  exact ⟨_, rfl, rfl⟩
theorem least_both (a : ByteArray) (hs : a.size ≤ 1000) (hl : a.data.toList.all sgn = true) : ∀ (d i k : Nat) (b : ByteArray), i + d = a.size → d < k →
    ∃ r, spec_ciLeast.l0 k a b (i : Int) a = some r ∧ impl_leastRing.l0 k a b (a.size : Int) (i : Int) = some r := by
  intro d
  induction d with
  | zero =>
    intro i k b hi hk
    obtain ⟨k, rfl⟩ : ∃ m, k = m + 1 := ⟨k - 1, by omega⟩
    simp only [spec_ciLeast.l0, impl_leastRing.l0]
    rw [if_pos (by omega), if_neg (by omega), if_neg (by omega)]
    exact ⟨_, rfl, rfl⟩
  | succ d ih =>
    intro i k b hi hk
    obtain ⟨k, rfl⟩ : ∃ m, k = m + 1 := ⟨k - 1, by omega⟩
    obtain ⟨c, hd, hb⟩ := bt_eq a i (by omega)
    have hc : sgn c = true := by
      rw [List.all_eq_true] at hl
      exact hl c (List.mem_of_mem_drop (i := i) (by rw [hd]; exact List.mem_cons_self))
    have h128 : (c.toNat : Int) < 128 := by
      unfold sgn at hc
      simp only [Bool.or_eq_true, beq_iff_eq] at hc
      rcases hc with (rfl | rfl) | rfl <;> decide
    obtain ⟨t, p1, p2⟩ := turn_some a hs i (by omega)
    simp only [spec_ciLeast.l0, impl_leastRing.l0]
    rw [if_pos (by omega), if_pos (by omega), hb, if_pos h128, if_pos (by omega), p1, p2, w64_succ (n := a.size) (by omega) (by omega)]
    simp only [Option.bind_some]
    have e1 : (i : Int) + 1 = ((i + 1 : Nat) : Int) := rfl
    rw [e1]
    obtain ⟨r1, q1, q2⟩ := ih (i + 1) k t (by omega) (by omega)
    obtain ⟨r2, q3, q4⟩ := ih (i + 1) k b (by omega) (by omega)
    by_cases h : Op.bytesLess t.toList b.toList = true
    · rw [if_pos h, min_second h]
      exact ⟨r1, q1, q2⟩
    · rw [if_neg h, min_first h]
      exact ⟨r2, q3, q4⟩
end Go.Proofs.Ytpelhinjoambfaa.XC
