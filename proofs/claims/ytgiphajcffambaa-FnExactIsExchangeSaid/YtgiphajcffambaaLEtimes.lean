/- So many of a sign, for the reference and for the program: for all counts up to 1000000. -/
import Derived.Test.YtgiphajcffambaaXE1
import Derived.Test.YtgiphajcffambaaB
namespace Go.Proofs.Ytgiphajcffambaa.XE
set_option linter.unusedVariables false
set_option linter.unusedSimpArgs false
open Go Go.RowKit Go.Proofs.YtgiphajcffambaaW.PrintWords Go.Proofs.YtgiphajcffambaaB

theorem data_append (x y : ByteArray) : (x ++ y).data.toList = x.data.toList ++ y.data.toList := by simp
theorem size_append (x y : ByteArray) : (x ++ y).size = x.size + y.size := by simp
/-- so many of a sign -/
def reps (c : UInt8) (n : Nat) : ByteArray := ⟨(List.replicate n c).toArray⟩
theorem reps_size (c : UInt8) (n : Nat) : (reps c n).size = n := by
  unfold reps
  rw [Lib.size_eq]
  simp
theorem reps_list (c : UInt8) (n : Nat) : (reps c n).data.toList = List.replicate n c := by simp [reps]
theorem ba_ext {x y : ByteArray} (h : x.data.toList = y.data.toList) : x = y := by rw [← Lib.mk_data x, ← Lib.mk_data y, h]
theorem reps_succ (c : UInt8) (n : Nat) : reps c n ++ (⟨#[c]⟩ : ByteArray) = reps c (n + 1) := by
  apply ba_ext
  rw [data_append, reps_list, reps_list]
  simp [List.replicate_succ']
theorem liTimes_l0 (c : UInt8) : ∀ (d m k : Nat), m + d ≤ 1000000 → d < k → spec_liTimes.l0 k (⟨#[c]⟩ : ByteArray) (d : Int) (reps c m) = some (reps c (m + d)) := by
  intro d
  induction d with
  | zero =>
    intro m k _ hk
    obtain ⟨k, rfl⟩ : ∃ m, k = m + 1 := ⟨k - 1, by omega⟩
    simp only [spec_liTimes.l0]
    rw [if_neg (by omega)]
    rfl
  | succ d ih =>
    intro m k hm hk
    obtain ⟨k, rfl⟩ : ∃ m, k = m + 1 := ⟨k - 1, by omega⟩
    simp only [spec_liTimes.l0]
    have h1 : (⟨#[c]⟩ : ByteArray).size = 1 := rfl
    rw [if_pos (by omega), if_pos (by rw [reps_size, h1]; omega), reps_succ, w64 (x := ((d + 1 : Nat) : Int) - 1) (by omega) (by omega), show ((d + 1 : Nat) : Int) - 1 = (d : Int) from by omega, ih (m + 1) k (by omega) (by omega)]
    congr 2
    omega
theorem liTimes_eq (c : UInt8) (n k : Nat) (hn : n ≤ 1000000) (hk : n < k) : spec_liTimes.f k (⟨#[c]⟩ : ByteArray) (n : Int) = some (reps c n) := by
  have h := liTimes_l0 c n 0 k (by omega) hk
  rw [Nat.zero_add] at h
  exact h
/-- three parts, one behind the other -/
def three (c : UInt8) (l m : Nat) (d : UInt8) (n : Nat) : ByteArray := (reps c l ++ reps 46 m) ++ reps d n
theorem three_list (c d : UInt8) (l m n : Nat) : (three c l m d n).data.toList = List.replicate l c ++ (List.replicate m 46 ++ List.replicate n d) := by
  unfold three
  rw [data_append, data_append, reps_list, reps_list, reps_list, List.append_assoc]
theorem three_size (c d : UInt8) (l m n : Nat) : (three c l m d n).size = l + m + n := by
  unfold three
  rw [size_append, size_append, reps_size, reps_size, reps_size]
theorem repeat_one (c : UInt8) : ∀ n, Lib.repeatL [c] n = List.replicate n c
  | 0 => rfl
  | n + 1 => by rw [Lib.repeatL, repeat_one c n]; rfl
theorem repeat_eq (c : UInt8) (n : Nat) (hn : n ≤ 1000000) : strings_Repeat.f (⟨#[c]⟩ : ByteArray) (n : Int) = some (reps c n) := by
  unfold strings_Repeat.f
  rw [if_pos ⟨by omega, by omega, by rw [Int.toNat_natCast, show (⟨#[c]⟩ : ByteArray).size = 1 from rfl]; omega⟩, Int.toNat_natCast, show (⟨#[c]⟩ : ByteArray).data.toList = [c] from rfl, repeat_one]
  rfl
end Go.Proofs.Ytgiphajcffambaa.XE
