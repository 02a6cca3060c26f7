/- The counts of rings by the reference and by the program: for 3 to 9 cells. -/
import Derived.Test.YtpelhinjoambfaaLCcounts
import Derived.Test.YtpelhinjoambfaaLCthree0
import Derived.Test.YtpelhinjoambfaaXC1
import Derived.Test.YtpelhinjoambfaaXC3
import Derived.Test.YtpelhinjoambfaaXC4
import Derived.Test.YtpelhinjoambfaaXC5
namespace Go.Proofs.Ytpelhinjoambfaa.XC
set_option linter.unusedVariables false
set_option linter.unusedSimpArgs false
open Go Go.RowKit Go.Proofs.YtpelhinjoambfaaW.PrintWords Go.Proofs.YtpelhinjoambfaaB Go.Proofs.Ytpelhinjoambfaa.Ranks
theorem ciNumbers_eq (x y z : Int) (k : Nat) (hk : 20 ≤ k) : spec_ciNumbers.f k x y z = some (threeB 9 x y z && decide (3 ≤ wrap64 (wrap64 (x + y) + z))) := by
  refine at_rounds (spec_ciNumbers.mono x y z) hk ?_
  unfold spec_ciNumbers.f threeB
  rw [all_eq3]
  simp only [Option.bind_some, in_eq3]
  generalize wrap64 (wrap64 (x + y) + z) = s
  by_cases h1 : (0 : Int) ≤ x ∧ x ≤ 9 <;> by_cases h2 : (0 : Int) ≤ y ∧ y ≤ 9 <;> by_cases h3 : (0 : Int) ≤ z ∧ z ≤ 9 <;> simp [h1, h2, h3]
  by_cases h4 : 3 ≤ s <;> by_cases h5 : s ≤ 9 <;> simp [h4, h5] <;> omega
theorem count_both (t g f : Nat) (h3 : 3 ≤ t + g + f) (h9 : t + g + f ≤ 9) :
    (spec_ciCount.f 5000 (⟨#[]⟩ : ByteArray) (t : Int) (g : Int) (f : Int) = some ((((linesAt (t + g + f) t g f []).countP pLst : Nat) : Int), (((linesAt (t + g + f) t g f []).countP pBlk : Nat) : Int)) ∧ ∀ s ∈ linesAt (t + g + f) t g f [], condR allC s = some (pLst s)) ∧
    (∀ s ∈ linesAt (t + g + f) t g f [], s.size = t + g + f ∧ s.data.toList.all sgn = true ∧ impl_leastRing.f 2000 s = some (lstOf s)) ∧ (linesAt (t + g + f) t g f []).length ≤ 1000000 := by
  have hin : ∀ s ∈ linesAt (t + g + f) t g f [], s.size = t + g + f ∧ s.data.toList.all sgn = true ∧ impl_leastRing.f 2000 s = some (lstOf s) := fun s hs => by
    obtain ⟨g1, g2⟩ := linesAt_in (pre := []) rfl hs
    have g3 : s.size = t + g + f := by rw [g1]; simp
    exact ⟨g3, g2, (least_eq s (by omega) g2).2⟩
  refine ⟨⟨ciCount_all (t + g + f) h3 h9 (t + g + f) t g f [] 5000 rfl (by simp) rfl (by omega), fun s hs => ?_⟩, hin, ?_⟩
  · unfold condR
    rw [(hin s hs).2.2, Option.bind_some]
    unfold pLst allC
    cases (lstOf s).toList == s.toList <;> rfl
  · rw [linesAt_length _ t g f [] rfl (by omega)]
    exact Nat.le_of_lt (M_small (by omega))
end Go.Proofs.Ytpelhinjoambfaa.XC
