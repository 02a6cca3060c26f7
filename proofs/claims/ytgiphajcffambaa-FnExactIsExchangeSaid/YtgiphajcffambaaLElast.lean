/- The reference's first and last lines, for all counts and texts within the bounds that each theorem names. -/
import Derived.Test.YtgiphajcffambaaXE1
import Derived.Test.YtgiphajcffambaaXE10
import Derived.Test.YtgiphajcffambaaXE5
import Derived.Test.YtgiphajcffambaaXE8
import Derived.Test.YtgiphajcffambaaLEcount
import Derived.Test.YtgiphajcffambaaLEtimes
namespace Go.Proofs.Ytgiphajcffambaa.XE
set_option linter.unusedVariables false
set_option linter.unusedSimpArgs false
open Go Go.RowKit Go.Proofs.YtgiphajcffambaaW.PrintWords Go.Proofs.YtgiphajcffambaaB

theorem liLast_eq (a : ByteArray) (hs : a.size ≤ 100000) (k : Nat) (hk : a.size < k) : spec_liLast.f k a = some (three 70 (a.data.toList.count 70) (a.data.toList.count 46) 84 (a.data.toList.count 84)) := by
  have c1 : ∀ c : UInt8, a.data.toList.count c ≤ a.size := fun c => by rw [← data_length]; exact List.count_le_length
  unfold spec_liLast.f three
  rw [show spec_liCount.f k a 70 = _ from liCount_eq a (by omega) 70 k hk, show spec_liCount.f k a 46 = _ from liCount_eq a (by omega) 46 k hk, show spec_liCount.f k a 84 = _ from liCount_eq a (by omega) 84 k hk]
  have b1 := c1 70
  have b2 := c1 46
  have b3 := c1 84
  simp only [Option.bind_some]
  rw [liTimes_eq 70 _ k (by omega) (by omega), liTimes_eq 46 _ k (by omega) (by omega), liTimes_eq 84 _ k (by omega) (by omega)]
  simp only [Option.bind_some]
  rw [if_pos (by rw [reps_size, reps_size]; omega), if_pos (by rw [size_append, reps_size, reps_size, reps_size]; omega)]
theorem impl_last_eq (a : ByteArray) (hs : a.size ≤ 100000) : impl_last.f a = some (three 70 (a.data.toList.count 70) (a.data.toList.count 46) 84 (a.data.toList.count 84)) := by
  have c1 : ∀ c : UInt8, a.data.toList.count c ≤ a.size := fun c => by rw [← data_length]; exact List.count_le_length
  have b1 := c1 70
  have b2 := c1 46
  have b3 := c1 84
  unfold impl_last.f impl_ordered.f three
  rw [impl_count_eq]
  simp only [Option.bind_some]
  rw [show Utf8.encode 84 = (⟨#[84]⟩ : ByteArray) from by decide, show Utf8.encode 70 = (⟨#[70]⟩ : ByteArray) from by decide, repeat_eq 84 _ (by omega), repeat_eq 46 _ (by omega), repeat_eq 70 _ (by omega)]
  simp only [Option.bind_some]
  rw [if_pos (by rw [reps_size, reps_size]; omega), if_pos (by rw [size_append, reps_size, reps_size, reps_size]; omega)]
  rfl
end Go.Proofs.Ytgiphajcffambaa.XE
