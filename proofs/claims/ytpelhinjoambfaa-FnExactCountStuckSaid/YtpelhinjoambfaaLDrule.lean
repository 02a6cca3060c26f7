/- Moves by rule along one direction, for the reference and for the program: for all lines of 1 to 10 signs. -/
import Derived.Test.YtpelhinjoambfaaXD1
import Derived.Test.YtpelhinjoambfaaXD6
import Derived.Test.YtpelhinjoambfaaLDgoal0
namespace Go.Proofs.Ytpelhinjoambfaa.XD
set_option linter.unusedVariables false
set_option linter.unusedSimpArgs false
open Go Go.RowKit Go.Proofs.YtpelhinjoambfaaW.PrintWords Go.Proofs.YtpelhinjoambfaaB

def oth (c : Int) : Int := if c = 84 then 70 else if c = 70 then 84 else c
theorem impl_other_eq (c : Int) : impl_other.f c = some (oth c) := by
  unfold impl_other.f oth
  split
  · rfl
  · split <;> rfl
/-- what is jumped over -/
def jmp (o : Bool) (c x : Int) : Bool := x == oth c || (o && x == c)
theorem goalBy_l0 (a : ByteArray) (hs : a.size ≤ 100) (i : Nat) (hi : i < a.size) (hc : bt a (i : Int) = 84 ∨ bt a (i : Int) = 70) (d : Int) (hd : d = 1 ∨ d = -1) (o b l : Bool) :
    ∀ (e m : Nat), m + e = a.size → ∃ M : Nat, m ≤ M ∧ M ≤ a.size ∧ (∀ j : Nat, m ≤ j → j < M → jmp o (bt a i) (sg a ((i : Int) + d * (j : Int))) = true) ∧ jmp o (bt a i) (sg a ((i : Int) + d * (M : Int))) = false ∧
      ∀ k, e < k → impl_goalBy.l0 k a (i : Int) d ((i : Int) + d * (m : Int)) o b l = some ((i : Int) + d * (M : Int), decide (sg a ((i : Int) + d * (M : Int)) = 46 ∧ (M ≤ 2 ∨ l = true))) := by
  have f0 : (0 : Int) ≤ (i : Int) := by omega
  have f1 : (i : Int) < (a.size : Int) := by omega
  -- a place that is not jumped over ends the way
  have stop : ∀ m : Nat, m ≤ a.size → jmp o (bt a i) (sg a ((i : Int) + d * (m : Int))) = false → ∀ k, 0 < k → impl_goalBy.l0 k a (i : Int) d ((i : Int) + d * (m : Int)) o b l = some ((i : Int) + d * (m : Int), decide (sg a ((i : Int) + d * (m : Int)) = 46 ∧ (m ≤ 2 ∨ l = true))) := by
    intro m hm hj k hk
    obtain ⟨k, rfl⟩ : ∃ q, k = q + 1 := ⟨k - 1, by omega⟩
    have w1 : wrap64 ((i : Int) + d * (m : Int) - (i : Int)) = d * (m : Int) := by rcases hd with rfl | rfl <;> (rw [w64 (by omega) (by omega)]; omega)
    have w2 : wrap64 (d * (m : Int) * d) = (m : Int) := by rcases hd with rfl | rfl <;> (rw [w64 (by omega) (by omega)]; omega)
    have w3 : wrap64 ((m : Int) - 1) = (m : Int) - 1 := w64 (by omega) (by omega)
    unfold jmp at hj
    simp only [Bool.or_eq_false_iff, Bool.and_eq_false_iff, beq_eq_false_iff_ne] at hj
    obtain ⟨j1, j2⟩ := hj
    have fin : (if sg a ((i : Int) + d * (m : Int)) = 46 then (if (m : Int) - 1 ≤ 1 then some ((i : Int) + d * (m : Int), true) else some ((i : Int) + d * (m : Int), l)) else some ((i : Int) + d * (m : Int), false)) = some ((i : Int) + d * (m : Int), decide (sg a ((i : Int) + d * (m : Int)) = 46 ∧ (m ≤ 2 ∨ l = true))) := by
      by_cases q1 : sg a ((i : Int) + d * (m : Int)) = 46
      · rw [if_pos q1]
        by_cases q2 : (m : Int) - 1 ≤ 1
        · rw [if_pos q2, decide_eq_true ⟨q1, .inl (by omega)⟩]
        · rw [if_neg q2]
          cases l with
          | true => rw [decide_eq_true ⟨q1, .inr rfl⟩]
          | false => rw [decide_eq_false (fun h => by rcases h.2 with h | h; omega; cases h)]
      · rw [if_neg q1, decide_eq_false (fun h => q1 h.1)]
    simp only [impl_goalBy.l0, impl_at_eq, impl_other_eq, Option.bind_some]
    rw [if_pos f0, if_pos f1, if_neg j1, w1, w2, w3]
    cases o with
    | true =>
      have j3 : ¬ sg a ((i : Int) + d * (m : Int)) = bt a (i : Int) := by
        rcases j2 with j2 | j2
        · cases j2
        · exact j2
      rw [if_pos rfl, if_neg j3]
      exact fin
    | false =>
      rw [if_neg (by decide)]
      exact fin
  have go : ∀ m : Nat, m < a.size → jmp o (bt a i) (sg a ((i : Int) + d * (m : Int))) = true → ∀ k, impl_goalBy.l0 (k + 1) a (i : Int) d ((i : Int) + d * (m : Int)) o b l = impl_goalBy.l0 k a (i : Int) d ((i : Int) + d * ((m + 1 : Nat) : Int)) o b l := by
    intro m hm hj k
    have w1 : wrap64 ((i : Int) + d * (m : Int) + d) = (i : Int) + d * ((m + 1 : Nat) : Int) := by rcases hd with rfl | rfl <;> (rw [w64 (by omega) (by omega)]; omega)
    unfold jmp at hj
    simp only [Bool.or_eq_true, Bool.and_eq_true, beq_iff_eq] at hj
    simp only [impl_goalBy.l0, impl_at_eq, impl_other_eq, Option.bind_some]
    rw [if_pos f0, if_pos f1, w1]
    by_cases q : sg a ((i : Int) + d * (m : Int)) = oth (bt a (i : Int))
    · rw [if_pos q]
    · rw [if_neg q]
      rcases hj with h | ⟨h1, h2⟩
      · exact absurd h q
      · rw [if_pos h1, if_pos h2]
  intro e
  induction e with
  | zero =>
    intro m hm
    have hout : jmp o (bt a i) (sg a ((i : Int) + d * (m : Int))) = false := by
      have hz : sg a ((i : Int) + d * (m : Int)) = 0 := by
        unfold sg
        rw [if_neg (by rcases hd with rfl | rfl <;> omega)]
      rw [hz]
      unfold jmp oth
      rcases hc with h | h <;> rw [h] <;> cases o <;> decide
    exact ⟨m, Nat.le_refl _, by omega, fun j h1 h2 => by omega, hout, fun k hk => stop m (by omega) hout k (by omega)⟩
  | succ e ih =>
    intro m hm
    cases hj : jmp o (bt a i) (sg a ((i : Int) + d * (m : Int))) with
    | false => exact ⟨m, Nat.le_refl _, by omega, fun j h1 h2 => by omega, hj, fun k hk => stop m (by omega) hj k (by omega)⟩
    | true =>
      obtain ⟨M, h1, h2, h3, h4, h5⟩ := ih (m + 1) (by omega)
      refine ⟨M, by omega, h2, fun j g1 g2 => ?_, h4, fun k hk => ?_⟩
      · by_cases e : j = m
        · subst e; exact hj
        · exact h3 j (by omega) g2
      · obtain ⟨k, rfl⟩ : ∃ q, k = q + 1 := ⟨k - 1, by omega⟩
        rw [go m (by omega) hj k]
        exact h5 k (by omega)
theorem goalBy_eq (a : ByteArray) (hs : a.size ≤ 100) (i : Nat) (hi : i < a.size) (hc : bt a (i : Int) = 84 ∨ bt a (i : Int) = 70) (d : Int) (hd : d = 1 ∨ d = -1) (o b l : Bool) :
    ∃ M : Nat, 1 ≤ M ∧ M ≤ a.size ∧ (∀ j : Nat, 1 ≤ j → j < M → jmp o (bt a i) (sg a ((i : Int) + d * (j : Int))) = true) ∧ jmp o (bt a i) (sg a ((i : Int) + d * (M : Int))) = false ∧
      ∀ k, a.size < k → impl_goalBy.f k a (i : Int) d o b l = some ((i : Int) + d * (M : Int), decide (sg a ((i : Int) + d * (M : Int)) = 46 ∧ (M ≤ 2 ∨ l = true))) := by
  obtain ⟨M, h1, h2, h3, h4, h5⟩ := goalBy_l0 a hs i hi hc d hd o b l (a.size - 1) 1 (by omega)
  refine ⟨M, h1, h2, h3, h4, fun k hk => ?_⟩
  unfold impl_goalBy.f
  rw [← h5 k (by omega)]
  congr 1
  rcases hd with rfl | rfl <;> (rw [w64 (by omega) (by omega)]; omega)
end Go.Proofs.Ytpelhinjoambfaa.XD
