/- FnExactMeetsOfRing without Go: for every text that memory holds, the program's MeetsOfRing is the reference's. -/
import Derived.Test.YtoaajkpcefgofaaDoorLAring
import Derived.Test.YtoaajkpcefgofaaDoorXA2
namespace Go.Proofs.YtoaajkpcefgofaaDoor.Pure
set_option linter.unusedVariables false
set_option linter.unusedSimpArgs false
open Go Go.RowKit Go.Proofs.YtoaajkpcefgofaaDoorW.PrintWords Go.Proofs.YtoaajkpcefgofaaDoor.XA Go.Proofs.YtoaajkpcefgofaaDoorB
theorem meets_both (a : ByteArray) (hs : a.size ≤ 140737488351232) (hne : 0 < a.size) (hl : a.data.toList.all sgn = true) : ∀ (d i k : Nat) (n : Int), i + d = a.size → d < k →
    ∃ r, spec_MeetsOfRing.l0 k a n (i : Int) a = some r ∧ impl_MeetsOfRing.l0 k a n (a.size : Int) (i : Int) = some r := by
  intro d
  induction d with
  | zero =>
    intro i k n hi hk
    obtain ⟨k, rfl⟩ : ∃ m, k = m + 1 := ⟨k - 1, by omega⟩
    simp only [spec_MeetsOfRing.l0, impl_MeetsOfRing.l0]
    rw [if_pos (by omega), if_neg (by omega), if_neg (by omega)]
    exact ⟨_, rfl, rfl⟩
  | succ d ih =>
    intro i k n hi hk
    obtain ⟨k, rfl⟩ : ∃ m, k = m + 1 := ⟨k - 1, by omega⟩
    obtain ⟨c, hd, hb⟩ := bt_eq a i (by omega)
    have hc : sgn c = true := by
      rw [List.all_eq_true] at hl
      exact hl c (List.mem_of_mem_drop (i := i) (by rw [hd]; exact List.mem_cons_self))
    have h128 : (c.toNat : Int) < 128 := by
      unfold sgn at hc
      simp only [Bool.or_eq_true, beq_iff_eq] at hc
      rcases hc with (rfl | rfl) | rfl <;> decide
    have hw : wrap64 ((i : Int) + 1) = ((i + 1 : Nat) : Int) := w64_succ (n := a.size) (by omega) hs
    have hm0 : 0 ≤ Int.tmod ((i + 1 : Nat) : Int) (a.size : Int) := Int.tmod_nonneg _ (by omega)
    have hm1 : Int.tmod ((i + 1 : Nat) : Int) (a.size : Int) < (a.size : Int) := Int.tmod_lt_of_pos _ (by omega)
    simp only [spec_MeetsOfRing.l0, impl_MeetsOfRing.l0]
    rw [hw, hb]
    rw [if_pos (show (0 : Int) ≤ (i : Int) by omega), if_pos (show (i : Int) < (a.size : Int) by omega), if_pos h128, if_pos (show (i : Int) < (a.size : Int) by omega), if_neg (show ¬ (a.size : Int) = 0 by omega), if_pos hm0, if_pos hm1]
    rw [if_pos (show (i : Int) < (a.size : Int) by omega), if_pos (show (0 : Int) ≤ (i : Int) by omega), if_pos (show (i : Int) < (a.size : Int) by omega)]
    have z0 : ((a.size : Int) = 0) = False := eq_false (by omega)
    have z1 := eq_true hm0
    have z2 := eq_true hm1
    simp only [z0, z1, z2, if_false, if_true]
    have e1 : (i : Int) + 1 = ((i + 1 : Nat) : Int) := rfl
    rw [e1]
    obtain ⟨r1, p1, q1⟩ := ih (i + 1) k (wrap64 (n + 1)) (by omega) (by omega)
    obtain ⟨r2, p2, q2⟩ := ih (i + 1) k n (by omega) (by omega)
    rw [p1, p2, q1, q2]
    split
    · split
      · exact ⟨_, rfl, rfl⟩
      · exact ⟨_, rfl, rfl⟩
    · exact ⟨_, rfl, rfl⟩
theorem FnExactMeetsOfRing (a : ByteArray) (hs : a.size ≤ 140737488351232) : ∃ k, laws_FnExactMeetsOfRing.f k a = some true := by
  refine ⟨100, ?_⟩
  unfold laws_FnExactMeetsOfRing.f
  split
  · rfl
  have hr : ∃ r, spec_MeetsOfRing.f 100 a = some r ∧ impl_MeetsOfRing.f 100 a = some r := by
    unfold spec_MeetsOfRing.f impl_MeetsOfRing.f
    rw [ciGood_eq a hs 100 (by omega), impl_IsRing_eq a hs]
    simp only [Option.bind_some]
    cases hL : isRing a with
    | false => exact ⟨_, rfl, rfl⟩
    | true =>
      obtain ⟨h1, h9, hl⟩ := isRing_size hL
      exact meets_both a hs (by omega) hl a.size 0 100 0 (by omega) (by omega)
  obtain ⟨r, h1, h2⟩ := hr
  exact law_two _ _ r h1 h2
end Go.Proofs.YtoaajkpcefgofaaDoor.Pure
