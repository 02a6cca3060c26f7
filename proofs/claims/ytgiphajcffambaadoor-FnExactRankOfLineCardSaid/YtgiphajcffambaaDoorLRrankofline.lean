/- The rank of a line, for the reference and for the program: for all texts that memory holds. -/
import Derived.Test.YtgiphajcffambaaDoorXR1
import Derived.Test.YtgiphajcffambaaDoorXR2
import Derived.Test.YtgiphajcffambaaDoorLRmany
import Derived.Test.YtgiphajcffambaaDoorLRcount
namespace Go.Proofs.YtgiphajcffambaaDoor.XR
set_option linter.unusedVariables false
set_option linter.unusedSimpArgs false
open Go Go.RowKit Go.Proofs.YtgiphajcffambaaDoorW.PrintWords Go.Proofs.YtgiphajcffambaaDoorB Go.Proofs.YtgiphajcffambaaDoor.Ranks
theorem rkl_cons (c : UInt8) (l : List UInt8) : rank (c :: l) = (if c = 46 then 0 else if c = 70 then GG ((c :: l).count 84) ((c :: l).count 46) ((c :: l).count 70) else GG ((c :: l).count 84) ((c :: l).count 46) ((c :: l).count 70) + FF ((c :: l).count 84) ((c :: l).count 46) ((c :: l).count 70)) + rank l := rfl
theorem rkl_l0 (a : ByteArray) (h12 : a.size ≤ 12) (hall : a.data.toList.all sgn = true) : ∀ (d i k acc : Nat), i + d = a.size → d + 50 < k → acc ≤ 10000000 * i →
    spec_RankOfLine.l0 k a (acc : Int) (((a.data.toList.drop i).count 84 : Nat) : Int) (((a.data.toList.drop i).count 46 : Nat) : Int) (((a.data.toList.drop i).count 70 : Nat) : Int) (i : Int) = some (((acc + rank (a.data.toList.drop i) : Nat) : Int), true) := by
  intro d
  induction d with
  | zero =>
    intro i k acc hi hk _
    obtain ⟨k, rfl⟩ : ∃ m, k = m + 1 := ⟨k - 1, by omega⟩
    simp only [spec_RankOfLine.l0]
    rw [if_neg (by omega), List.drop_of_length_le (by rw [data_length]; omega)]
    rfl
  | succ d ih =>
    intro i k acc hi hk hacc
    obtain ⟨k, rfl⟩ : ∃ m, k = m + 1 := ⟨k - 1, by omega⟩
    obtain ⟨c, hd, hb⟩ := bt_eq a i (by omega)
    have hal2 : (a.data.toList.drop i).all sgn = true := List.all_eq_true.2 fun x hx => List.all_eq_true.1 hall x (List.mem_of_mem_drop hx)
    have hlen := counts_len hal2
    rw [List.length_drop, data_length] at hlen
    have hsg : sgn c = true := by
      rw [hd, List.all_cons, Bool.and_eq_true] at hal2
      exact hal2.1
    have hrk := rkl_cons c (a.data.toList.drop (i + 1))
    have hih := fun acc2 h => ih (i + 1) k acc2 (by omega) (by omega) h
    have c1 : (c :: a.data.toList.drop (i + 1)).count 84 = (a.data.toList.drop (i + 1)).count 84 + if c = 84 then 1 else 0 := by rw [List.count_cons]; simp
    have c2 : (c :: a.data.toList.drop (i + 1)).count 46 = (a.data.toList.drop (i + 1)).count 46 + if c = 46 then 1 else 0 := by rw [List.count_cons]; simp
    have c3 : (c :: a.data.toList.drop (i + 1)).count 70 = (a.data.toList.drop (i + 1)).count 70 + if c = 70 then 1 else 0 := by rw [List.count_cons]; simp
    rw [← hd] at hrk c1 c2 c3
    generalize (a.data.toList.drop i).count 84 = t at *
    generalize (a.data.toList.drop i).count 46 = g at *
    generalize (a.data.toList.drop i).count 70 = f at *
    generalize (a.data.toList.drop (i + 1)).count 84 = t' at *
    generalize (a.data.toList.drop (i + 1)).count 46 = g' at *
    generalize (a.data.toList.drop (i + 1)).count 70 = f' at *
    generalize rank (a.data.toList.drop (i + 1)) = rr at *
    rw [hrk]
    have b1 := GG_le (t := t) (g := g) (f := f) (by omega)
    have b2 := FF_le (t := t) (g := g) (f := f) (by omega)
    have z0 : (i : Int) < (a.size : Int) := by omega
    have g1 := many_GG t g f (by omega) k (by omega)
    have g2 := many_FF t g f (by omega) k (by omega)
    clear hd hal2 hall hrk ih
    simp only [spec_RankOfLine.l0]
    rw [if_pos z0, if_pos (by omega), hb, w64_succ (n := a.size) (by omega) (by omega), w_pred t (by omega), w_pred g (by omega), w_pred f (by omega), g1, g2]
    simp only [Option.bind_some, is46, is70]
    generalize GG t g f = x at *
    generalize FF t g f = y at *
    clear g1 g2 hb
    rcases sgn_cases hsg with rfl | rfl | rfl
    · rw [if_pos rfl, if_pos rfl]
      simp at c1 c2 c3
      subst c1 c2 c3
      rw [show (((g' + 1 : Nat) : Int) - 1) = (g' : Int) from by omega, hih acc (by omega), Nat.zero_add]
    · simp only [show ((70 : UInt8) = 46) = False from by simp, if_false, if_true]
      simp at c1 c2 c3
      subst c1 c2 c3
      rw [show wrap64 ((acc : Int) + (x : Int)) = ((acc + x : Nat) : Int) from by rw [w64 (by omega) (by omega)]; omega, show (((f' + 1 : Nat) : Int) - 1) = (f' : Int) from by omega, hih (acc + x) (by omega), Nat.add_assoc]
    · simp only [show ((84 : UInt8) = 46) = False from by simp, show ((84 : UInt8) = 70) = False from by simp, if_false]
      rw [w_sum2 x y b1 b2]
      simp at c1 c2 c3
      subst c1 c2 c3
      rw [show wrap64 ((acc : Int) + ((x + y : Nat) : Int)) = ((acc + (x + y) : Nat) : Int) from by rw [w64 (by omega) (by omega)]; omega, show (((t' + 1 : Nat) : Int) - 1) = (t' : Int) from by omega, hih (acc + (x + y)) (by omega), Nat.add_assoc]
/-- what both answer -/
def rklA (a : ByteArray) : Int × Bool := if isLine 12 a = true then (((rank a.data.toList : Nat) : Int), true) else (0, false)
theorem spec_rkl (a : ByteArray) (hs : a.size ≤ 140737488351232) (k : Nat) (hk : 80 ≤ k) : spec_RankOfLine.f k a = some (rklA a) := by
  unfold spec_RankOfLine.f rklA
  rw [liGood_eq a hs k (by omega)]
  simp only [Option.bind_some]
  cases hL : isLine 12 a with
  | false => rw [if_neg (by decide), if_neg (by decide)]
  | true =>
    obtain ⟨h1, h12, hall⟩ := isLine_size hL
    rw [if_pos rfl, if_pos rfl, show spec_liCount.f k a 84 = _ from liCount_eq a hs 84 k (by omega), show spec_liCount.f k a 46 = _ from liCount_eq a hs 46 k (by omega), show spec_liCount.f k a 70 = _ from liCount_eq a hs 70 k (by omega)]
    simp only [Option.bind_some]
    have h := rkl_l0 a h12 hall a.size 0 k 0 (by omega) (by omega) (by omega)
    rw [List.drop_zero, Nat.zero_add] at h
    exact h
theorem impl_rkl (a : ByteArray) (hs : a.size ≤ 140737488351232) : impl_RankOfLine.f a = some (rklA a) := by
  unfold impl_RankOfLine.f rklA impl_IsLine.f
  rw [show impl_isLineOf.f a 12 = some (isLine 12 a) from isLineOf_eq a 12 hs]
  simp only [Option.bind_some]
  cases hL : isLine 12 a with
  | false => rw [if_neg (by decide), if_neg (by decide)]
  | true =>
    obtain ⟨h1, h12, hall⟩ := isLine_size hL
    rw [if_pos rfl, if_pos rfl, if_pos ⟨h12, hall⟩]
end Go.Proofs.YtgiphajcffambaaDoor.XR
