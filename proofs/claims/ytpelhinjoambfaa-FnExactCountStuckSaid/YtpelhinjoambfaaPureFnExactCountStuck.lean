/- FnExactCountStuck without Go: for all numbers and all rules, the program's CountStuck is the reference's. -/
import Derived.Test.YtpelhinjoambfaaLDstuck
import Derived.Test.YtpelhinjoambfaaXD1
import Derived.Test.YtpelhinjoambfaaXD4
import Derived.Test.YtpelhinjoambfaaXD5
import Derived.Test.YtpelhinjoambfaaXD7
namespace Go.Proofs.Ytpelhinjoambfaa.Pure
set_option linter.unusedVariables false
set_option linter.unusedSimpArgs false
open Go Go.RowKit Go.Proofs.YtpelhinjoambfaaW.PrintWords Go.Proofs.Ytpelhinjoambfaa.XD Go.Proofs.YtpelhinjoambfaaB Go.Proofs.Ytpelhinjoambfaa.Ranks
theorem stuck_both (x y z : Int) (o b l : Bool) (k : Nat) (hk : 1100000 ≤ k) : ∃ r : Int × Bool, spec_CountStuck.f k x y z o b l = some r ∧ impl_CountStuck.f x y z o b l = some r := by
  unfold spec_CountStuck.f impl_CountStuck.f spec_ruThree.f
  rw [spec_three3 x y z k (by omega), impl_three3 x y z 8]
  simp only [Option.bind_some]
  cases h : threeB 12 x y z with
  | false =>
    have h8 : threeB 8 x y z = false := by
      cases h8 : threeB 8 x y z with
      | false => rfl
      | true =>
        obtain ⟨t, g, f, rfl, rfl, rfl, h1, h9⟩ := threeB_is (by decide) h8
        have hw : wrap64 (wrap64 ((t : Int) + g) + f) = (t : Int) + g + f := w_sum3 t g f (by omega)
        have : threeB 12 (t : Int) (g : Int) (f : Int) = true := by
          unfold threeB
          rw [hw, decide_eq_true (show (0 : Int) ≤ t ∧ (t : Int) ≤ 12 by omega), decide_eq_true (show (0 : Int) ≤ g ∧ (g : Int) ≤ 12 by omega), decide_eq_true (show (0 : Int) ≤ f ∧ (f : Int) ≤ 12 by omega), decide_eq_true (show (1 : Int) ≤ (t : Int) + g + f ∧ (t : Int) + g + f ≤ 12 by omega)]
          rfl
        rw [this] at h
        cases h
    rw [h8]
    exact ⟨_, rfl, rfl⟩
  | true =>
    obtain ⟨t, g, f, rfl, rfl, rfl, h1, h9⟩ := threeB_is (by decide) h
    have hw : wrap64 (wrap64 ((t : Int) + g) + f) = (t : Int) + g + f := w_sum3 t g f (by omega)
    rw [hw, if_pos (show true = true from rfl)]
    simp only [Option.bind_some]
    by_cases h8 : t + g + f ≤ 8
    · have e1 : decide ((t : Int) + g + f ≤ 8) = true := decide_eq_true (by omega)
      have e2 : threeB 8 (t : Int) (g : Int) (f : Int) = true := by
        unfold threeB
        rw [hw, decide_eq_true (show (0 : Int) ≤ t ∧ (t : Int) ≤ 8 by omega), decide_eq_true (show (0 : Int) ≤ g ∧ (g : Int) ≤ 8 by omega), decide_eq_true (show (0 : Int) ≤ f ∧ (f : Int) ≤ 8 by omega), decide_eq_true (show (1 : Int) ≤ (t : Int) + g + f ∧ (t : Int) + g + f ≤ 8 by omega)]
        rfl
      have hI : 0 ≤ (t : Int) ∧ 0 ≤ (g : Int) ∧ 0 ≤ (f : Int) ∧ (t : Int) + (g : Int) + (f : Int) ≤ 12 := ⟨by omega, by omega, by omega, by omega⟩
      have hlen : (linesAt (t + g + f) t g f []).length ≤ 1000000 := by
        rw [linesAt_length _ t g f [] rfl (by omega)]
        exact Nat.le_of_lt (M_small (by omega))
      have hin : ∀ s ∈ linesAt (t + g + f) t g f [], 1 ≤ s.size ∧ s.size ≤ 10 ∧ s.data.toList.all sgn = true := fun s hs => by
        obtain ⟨g1, g2⟩ := linesAt_in (pre := []) rfl hs
        rw [List.length_nil, Nat.zero_add] at g1
        exact ⟨by omega, by omega, g2⟩
      have hst := stuck_l0 o b l _ hlen hin (linesAt (t + g + f) t g f []).length 0 k 0 (by omega) (by omega) (by omega)
      rw [e1, e2, if_pos (show true = true from rfl), if_pos (show true = true from rfl), if_pos hI, Int.toNat_natCast, Int.toNat_natCast, Int.toNat_natCast, if_pos hlen, ruLines_eq t g f h1 (by omega) k (by omega), cntO_eq (c := stkC o b l) (p := pStk o b l) (fun s hs => by
        obtain ⟨s1, s2, s3⟩ := hin s hs
        unfold stkC
        rw [movesBy_eq s s1 s2 s3 o b l 2000 (by omega)]
        rfl)]
      simp only [Option.bind_some]
      rw [List.drop_zero, Nat.zero_add] at hst
      exact ⟨_, hst, rfl⟩
    · have e1 : decide ((t : Int) + g + f ≤ 8) = false := decide_eq_false (by omega)
      have e2 : threeB 8 (t : Int) (g : Int) (f : Int) = false := by
        cases h8' : threeB 8 (t : Int) (g : Int) (f : Int) with
        | false => rfl
        | true =>
          obtain ⟨t', g', f', e3, e4, e5, _, h7⟩ := threeB_is (by decide) h8'
          omega
      rw [e1, e2]
      exact ⟨_, rfl, rfl⟩
theorem FnExactCountStuck (x y z : Int) (o b l : Bool) (hx : (Lit.int .i64 x).wf = true) (hy : (Lit.int .i64 y).wf = true) (hz : (Lit.int .i64 z).wf = true) : ∃ k, laws_FnExactCountStuck.f k x y z o b l = some true := by
  refine ⟨1100000, ?_⟩
  obtain ⟨r, h1, h2⟩ := stuck_both x y z o b l 1100000 (Nat.le_refl _)
  unfold laws_FnExactCountStuck.f
  rw [show laws_toRule.f o b l = some (o, b, l) from rfl]
  simp only [Option.bind_some]
  rw [h1, h2]
  simp
end Go.Proofs.Ytpelhinjoambfaa.Pure
