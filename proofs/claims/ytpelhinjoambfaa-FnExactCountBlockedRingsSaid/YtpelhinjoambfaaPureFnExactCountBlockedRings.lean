/- FnExactCountBlockedRings without Go: for all numbers, the program's CountBlockedRings is the reference's. -/
import Derived.Test.YtpelhinjoambfaaLCcountboth
import Derived.Test.YtpelhinjoambfaaXC4
import Derived.Test.YtpelhinjoambfaaXC5
import Derived.Test.YtpelhinjoambfaaXC6
namespace Go.Proofs.Ytpelhinjoambfaa.Pure
set_option linter.unusedVariables false
set_option linter.unusedSimpArgs false
open Go Go.RowKit Go.Proofs.YtpelhinjoambfaaW.PrintWords Go.Proofs.Ytpelhinjoambfaa.XC Go.Proofs.YtpelhinjoambfaaB Go.Proofs.Ytpelhinjoambfaa.Ranks
theorem blk_cond {N : Nat} (h3 : 3 ≤ N) (h9 : N ≤ 9) {s : ByteArray} (h : s.size = N ∧ s.data.toList.all sgn = true ∧ impl_leastRing.f 2000 s = some (lstOf s)) : condR blkC s = some (pBlk s) := by
  unfold condR pBlk pLst blkC
  rw [h.2.2, Option.bind_some, impl_ringMoves_eq s (by rw [h.1]; exact h3) (by rw [h.1]; exact h9) 2000 (by omega), Option.bind_some]
  cases (lstOf s).toList == s.toList <;> rfl
theorem FnExactCountBlockedRings (a b c : Int) (ha : (Lit.int .i64 a).wf = true) (hb : (Lit.int .i64 b).wf = true) (hc : (Lit.int .i64 c).wf = true) : ∃ k, laws_FnExactCountBlockedRings.f k a b c = some true := by
  refine ⟨5000, ?_⟩
  have hr : ∃ r : Int × Bool, spec_CountBlockedRings.f 5000 a b c = some r ∧ impl_CountBlockedRings.f a b c = some r := by
    unfold spec_CountBlockedRings.f impl_CountBlockedRings.f
    rw [ciNumbers_eq a b c 5000 (by omega), impl_three3 a b c 9]
    simp only [Option.bind_some]
    cases h : threeB 9 a b c with
    | true =>
      obtain ⟨t, g, f, rfl, rfl, rfl, h1, h9⟩ := threeB_is (by decide) h
      have hI : 0 ≤ (t : Int) ∧ 0 ≤ (g : Int) ∧ 0 ≤ (f : Int) ∧ (t : Int) + (g : Int) + (f : Int) ≤ 12 := ⟨by omega, by omega, by omega, by omega⟩
      have hsum : wrap64 (wrap64 ((t : Int) + (g : Int)) + (f : Int)) = (t : Int) + (g : Int) + (f : Int) := by rw [w64 (x := (t : Int) + (g : Int)) (by omega) (by omega), w64 (by omega) (by omega)]
      rw [hsum, Bool.true_and, if_pos (show true = true from rfl), if_pos hI]
      by_cases h3 : t + g + f < 3
      · have e1 : decide (3 ≤ (t : Int) + (g : Int) + (f : Int)) = false := decide_eq_false (by omega)
        rw [e1, if_pos (show (t : Int) + (g : Int) + (f : Int) < 3 by omega)]
        exact ⟨_, rfl, rfl⟩
      · have h9' : t + g + f ≤ 9 := by omega
        obtain ⟨c1, c2, c3⟩ := count_both t g f (by omega) h9'
        have e1 : decide (3 ≤ (t : Int) + (g : Int) + (f : Int)) = true := decide_eq_true (by omega)
        rw [e1, if_neg (show ¬ (t : Int) + (g : Int) + (f : Int) < 3 by omega), Int.toNat_natCast, Int.toNat_natCast, Int.toNat_natCast, if_pos c3, cntO_eq (c := condR blkC) (p := pBlk) (fun s hs => blk_cond (by omega) (by omega) (c2 s hs)), if_pos (show true = true from rfl), c1.1]
        exact ⟨_, rfl, rfl⟩
    | false =>
      rw [Bool.false_and]
      exact ⟨_, rfl, rfl⟩
  obtain ⟨r, h1, h2⟩ := hr
  unfold laws_FnExactCountBlockedRings.f
  rw [h1, h2]
  simp
end Go.Proofs.Ytpelhinjoambfaa.Pure
