/- For all numbers of toads, gaps and frogs the program's SlidesOfExchange is the reference's. -/
import Derived.Test.YticlpfeeokghnaaPFnExactSlidesOfExchangex1
set_option linter.unusedVariables false
set_option linter.unusedSimpArgs false
namespace Go.Proofs.Yticlpfeeokghnaa.PureSlidesOfExchange
open Go Go.RowKit Go.Proofs.Yticlpfeeokghnaa.PFnExactSlidesOfExchange Go.Proofs.YticlpfeeokghnaaW.PrintWords Go.Proofs.YticlpfeeokghnaaW.PrintLast

theorem l1In_eq (a b c : Int) : spec_l1In.f a b c = some (decide (b ≤ a) && decide (a ≤ c)) := by
  unfold spec_l1In.f
  by_cases h : b ≤ a <;> simp [h]
theorem within_eq (a b c : Int) : impl_within.f a b c = some (decide (b ≤ a) && decide (a ≤ c)) := by
  unfold impl_within.f
  by_cases h : b ≤ a <;> simp [h]
theorem law_two (x y : Option (Int × Bool)) (r : Int × Bool) (hx : x = some r) (hy : y = some r) :
    (x.bind fun p => (y.bind fun q => (if q.1 = p.1 then (if (q.2 != p.2) = true then (some false) else (some true)) else (some false)))) = some true := by
  subst hx; subst hy; simp
theorem all_three (k : Nat) (a b c lo hi : Int) : spec_l1All.f (k + 5) [a, b, c] lo hi = some ((decide (lo ≤ a) && decide (a ≤ hi)) && ((decide (lo ≤ b) && decide (b ≤ hi)) && (decide (lo ≤ c) && decide (c ≤ hi)))) := by
  have e1 : wrap64 (0 + 1) = 1 := by unfold wrap64; omega
  have e2 : wrap64 (1 + 1) = 2 := by unfold wrap64; omega
  have e3 : wrap64 (2 + 1) = 3 := by unfold wrap64; omega
  have r0 : rd [a, b, c] 0 = a := rfl
  have r1 : rd [a, b, c] 1 = b := rfl
  have r2 : rd [a, b, c] 2 = c := rfl
  unfold spec_l1All.f
  simp only [spec_l1All.l0, List.length_cons, List.length_nil, l1In_eq, Option.bind_some, e1, e2, e3, r0, r1, r2]
  cases h1 : (decide (lo ≤ a) && decide (a ≤ hi)) <;> cases h2 : (decide (lo ≤ b) && decide (b ≤ hi)) <;> cases h3 : (decide (lo ≤ c) && decide (c ≤ hi)) <;> simp
theorem numbers_eq (a b c : Int) : impl_areCounts.f a b c 8 = spec_swNumbers.f 5 a b c := by
  unfold impl_areCounts.f spec_swNumbers.f
  rw [show (5 : Nat) = 0 + 5 from rfl, all_three]
  simp only [l1In_eq, within_eq, Option.bind_some]
  cases h1 : (decide (0 ≤ a) && decide (a ≤ 8)) <;> cases h2 : (decide (0 ≤ b) && decide (b ≤ 8)) <;> cases h3 : (decide (0 ≤ c) && decide (c ≤ 8)) <;> simp
theorem numbers_some (a b c : Int) : ∃ t, spec_swNumbers.f 5 a b c = some t ∧ (t = true → (0 ≤ a ∧ a ≤ 8) ∧ (0 ≤ b ∧ b ≤ 8) ∧ (0 ≤ c ∧ c ≤ 8)) := by
  unfold spec_swNumbers.f
  rw [show (5 : Nat) = 0 + 5 from rfl, all_three]
  simp only [l1In_eq, Option.bind_some]
  cases h1 : (decide (0 ≤ a) && decide (a ≤ 8)) <;> cases h2 : (decide (0 ≤ b) && decide (b ≤ 8)) <;> cases h3 : (decide (0 ≤ c) && decide (c ≤ 8)) <;> simp
  simp at h1 h2 h3
  exact fun _ _ => ⟨h1, h2, h3⟩
theorem exLength_eq (a b c : Int) : ∃ r, spec_ExchangeLength.f 5 a b c = some r ∧ impl_ExchangeLength.f a b c = some r ∧ (r.2 = true → (0 ≤ a ∧ a ≤ 8) ∧ (0 ≤ b ∧ b ≤ 8) ∧ (0 ≤ c ∧ c ≤ 8) ∧ r.1 = wrap64 (wrap64 (b * wrap64 (a + c)) + wrap64 (a * c))) := by
  obtain ⟨t, ht, hb⟩ := numbers_some a b c
  unfold impl_ExchangeLength.f spec_ExchangeLength.f
  rw [numbers_eq, ht]
  simp only [Option.bind_some]
  cases t with
  | false => exact ⟨(0, false), rfl, rfl, fun h => by cases h⟩
  | true =>
    obtain ⟨ha, hb, hc⟩ := hb rfl
    simp only [if_true]
    unfold spec_swLength.f
    by_cases b0 : b > 0
    · rw [if_pos b0]
      have hb0 : ¬ (b = 0) := by omega
      refine ⟨(wrap64 (wrap64 (b * wrap64 (a + c)) + wrap64 (a * c)), true), by simp, ?_, fun _ => ⟨ha, hb, hc, rfl⟩⟩
      rw [if_neg hb0]
      simp
    · have hb0 : b = 0 := by omega
      rw [if_neg b0, if_pos hb0]
      by_cases a0 : a = 0
      · have hap : ¬ (a > 0) := by omega
        rw [if_pos a0, if_neg hap]
        exact ⟨(wrap64 (wrap64 (b * wrap64 (a + c)) + wrap64 (a * c)), true), by simp, rfl, fun _ => ⟨ha, hb, hc, rfl⟩⟩
      · have hap : a > 0 := by omega
        rw [if_neg a0, if_pos hap]
        by_cases c0 : c = 0
        · have hcp : ¬ (c > 0) := by omega
          rw [if_neg hcp]
          exact ⟨(wrap64 (wrap64 (b * wrap64 (a + c)) + wrap64 (a * c)), true), by simp [c0], rfl, fun _ => ⟨ha, hb, hc, rfl⟩⟩
        · have hcp : c > 0 := by omega
          rw [if_pos hcp]
          exact ⟨(0, false), by simp [c0], rfl, fun h => by cases h⟩

theorem wrap_back (x y : Int) : wrap64 (wrap64 (wrap64 x + wrap64 y) - wrap64 y) = wrap64 x := by
  unfold wrap64
  omega
theorem FnExactSlidesOfExchange : laws_FnExactSlidesOfExchange.Pure := by
  intro a b c _ _ _
  obtain ⟨r, h1, h2, hb⟩ := exLength_eq a b c
  refine ⟨5, ?_⟩
  unfold laws_FnExactSlidesOfExchange.f spec_SlidesOfExchange.f impl_SlidesOfExchange.f
  rw [h1, h2]
  simp only [Option.bind_some]
  obtain ⟨n, ok⟩ := r
  cases ok with
  | false => simp
  | true =>
    obtain ⟨_, _, _, e⟩ := hb rfl
    simp only [] at e
    subst e
    simp only [if_true, Option.bind_some]
    rw [wrap_back]
    simp

end Go.Proofs.Yticlpfeeokghnaa.PureSlidesOfExchange

namespace Go.Proofs.Yticlpfeeokghnaa.Pure
open Go Go.RowKit Go.Proofs.Yticlpfeeokghnaa.PFnExactSlidesOfExchange

theorem FnExactSlidesOfExchange : laws_FnExactSlidesOfExchange.Pure := PureSlidesOfExchange.FnExactSlidesOfExchange

end Go.Proofs.Yticlpfeeokghnaa.Pure
