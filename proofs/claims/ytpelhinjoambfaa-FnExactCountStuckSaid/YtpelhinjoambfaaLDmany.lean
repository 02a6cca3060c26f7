/- How many lines there are, for the reference: for all counts up to 12 together, and where one of them is less than 0. -/
import Derived.Test.YtpelhinjoambfaaXD1
import Derived.Test.YtpelhinjoambfaaB
import Derived.Test.YtpelhinjoambfaaRanks
namespace Go.Proofs.Ytpelhinjoambfaa.XD
set_option linter.unusedVariables false
set_option linter.unusedSimpArgs false
open Go Go.RowKit Go.Proofs.YtpelhinjoambfaaW.PrintWords Go.Proofs.YtpelhinjoambfaaB Go.Proofs.Ytpelhinjoambfaa.Ranks
theorem many_table : ∀ a, a < 13 → ∀ b, b < 13 - a → ∀ c, c < 13 - a - b → (spec_liMany.f 40 ((a : Nat) : Int) ((b : Nat) : Int) ((c : Nat) : Int) == some ((M a b c : Nat) : Int)) = true := by decide +kernel
theorem many_eq (t g f : Nat) (h : t + g + f ≤ 12) (k : Nat) (hk : 40 ≤ k) : spec_liMany.f k (t : Int) (g : Int) (f : Int) = some ((M t g f : Nat) : Int) :=
  at_rounds (spec_liMany.mono _ _ _) hk (eq_of_beq (many_table t (by omega) g (by omega) f (by omega)))
theorem many_none (t g f : Int) (h : t < 0 ∨ g < 0 ∨ f < 0) (k : Nat) (hk : 1 ≤ k) : spec_liMany.f k t g f = some 0 := by
  obtain ⟨k, rfl⟩ : ∃ m, k = m + 1 := ⟨k - 1, by omega⟩
  unfold spec_liMany.f
  simp only [spec_liMany.j0]
  by_cases h1 : t < 0
  · rw [if_pos h1]
    simp
  · rw [if_neg h1]
    by_cases h2 : g < 0
    · rw [if_pos h2]
      simp
    · rw [if_neg h2, if_pos (by simp; omega)]
theorem many_GG (t g f : Nat) (h : t + g + f ≤ 12) (k : Nat) (hk : 40 ≤ k) : spec_liMany.f k (t : Int) ((g : Int) - 1) (f : Int) = some ((GG t g f : Nat) : Int) := by
  unfold GG
  by_cases hg : g = 0
  · subst hg
    rw [if_pos rfl]
    exact many_none _ _ _ (by omega) k (by omega)
  · rw [if_neg hg, show (g : Int) - 1 = ((g - 1 : Nat) : Int) from by omega]
    exact many_eq t (g - 1) f (by omega) k hk
theorem many_FF (t g f : Nat) (h : t + g + f ≤ 12) (k : Nat) (hk : 40 ≤ k) : spec_liMany.f k (t : Int) (g : Int) ((f : Int) - 1) = some ((FF t g f : Nat) : Int) := by
  unfold FF
  by_cases hg : f = 0
  · subst hg
    rw [if_pos rfl]
    exact many_none _ _ _ (by omega) k (by omega)
  · rw [if_neg hg, show (f : Int) - 1 = ((f - 1 : Nat) : Int) from by omega]
    exact many_eq t g (f - 1) (by omega) k hk
theorem w_sum3 (t g f : Nat) (h : t + g + f ≤ 1000) : wrap64 (wrap64 ((t : Int) + g) + f) = (t : Int) + g + f := by unfold wrap64; omega
theorem w_sum2 (a b : Nat) (h1 : a < 1000000) (h2 : b < 1000000) : wrap64 ((a : Int) + (b : Int)) = ((a + b : Nat) : Int) := by unfold wrap64; omega
theorem w_pred (a : Nat) (h : a ≤ 1000000) : wrap64 ((a : Int) - 1) = (a : Int) - 1 := by unfold wrap64; omega
theorem w_sub (a b : Nat) (h : b ≤ a) (h2 : a ≤ 10000000) : wrap64 ((a : Int) - (b : Int)) = ((a - b : Nat) : Int) := by unfold wrap64; omega
end Go.Proofs.Ytpelhinjoambfaa.XD
