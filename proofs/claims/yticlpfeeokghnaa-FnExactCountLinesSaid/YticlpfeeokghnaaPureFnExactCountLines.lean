/- For all numbers of toads, gaps and frogs the program's CountLines is the reference's. -/
import Derived.Test.YticlpfeeokghnaaPFnExactCountLinesx2
set_option linter.unusedVariables false
set_option linter.unusedSimpArgs false
namespace Go.Proofs.Yticlpfeeokghnaa.PureCountLines
open Go Go.RowKit Go.Proofs.Yticlpfeeokghnaa.PFnExactCountLines Go.Proofs.YticlpfeeokghnaaW.PrintWords Go.Proofs.YticlpfeeokghnaaW.PrintLast

theorem l1In_eq (a b c : Int) : spec_l1In.f a b c = some (decide (b ≤ a) && decide (a ≤ c)) := by
  unfold spec_l1In.f
  by_cases h : b ≤ a <;> simp [h]
theorem within_eq (a b c : Int) : impl_within.f a b c = some (decide (b ≤ a) && decide (a ≤ c)) := by
  unfold impl_within.f
  by_cases h : b ≤ a <;> simp [h]
theorem law_two (x y : Option (Int × Bool)) (r : Int × Bool) (hx : x = some r) (hy : y = some r) :
    (x.bind fun p => (y.bind fun q => (if q.1 = p.1 then (if (q.2 != p.2) = true then (some false) else (some true)) else (some false)))) = some true := by
  subst hx; subst hy; simp
theorem all_three (k : Nat) (a b c lo hi : Int) : spec_l1All.f (k + 5) [a, b, c] lo hi = some ((decide (lo ≤ a) && decide (a ≤ hi)) && ((decide (lo ≤ b) && decide (b ≤ hi)) && (decide (lo ≤ c) && decide (c ≤ hi)))) := by
  have e1 : wrap64 (0 + 1) = 1 := by unfold wrap64; omega
  have e2 : wrap64 (1 + 1) = 2 := by unfold wrap64; omega
  have e3 : wrap64 (2 + 1) = 3 := by unfold wrap64; omega
  have r0 : rd [a, b, c] 0 = a := rfl
  have r1 : rd [a, b, c] 1 = b := rfl
  have r2 : rd [a, b, c] 2 = c := rfl
  unfold spec_l1All.f
  simp only [spec_l1All.l0, List.length_cons, List.length_nil, l1In_eq, Option.bind_some, e1, e2, e3, r0, r1, r2]
  cases h1 : (decide (lo ≤ a) && decide (a ≤ hi)) <;> cases h2 : (decide (lo ≤ b) && decide (b ≤ hi)) <;> cases h3 : (decide (lo ≤ c) && decide (c ≤ hi)) <;> simp

theorem numbers_eq (a b c : Int) : impl_areCounts.f a b c 12 = spec_liThree.f 40 a b c := by
  unfold impl_areCounts.f spec_liThree.f
  rw [show (40 : Nat) = 35 + 5 from rfl, all_three]
  simp only [l1In_eq, within_eq, Option.bind_some]
  cases h1 : (decide (0 ≤ a) && decide (a ≤ 12)) <;> cases h2 : (decide (0 ≤ b) && decide (b ≤ 12)) <;> cases h3 : (decide (0 ≤ c) && decide (c ≤ 12)) <;> simp
theorem numbers_some (a b c : Int) : ∃ t, spec_liThree.f 40 a b c = some t ∧ (t = true → (0 ≤ a ∧ a ≤ 12) ∧ (0 ≤ b ∧ b ≤ 12) ∧ (0 ≤ c ∧ c ≤ 12) ∧ a + b + c ≤ 12) := by
  unfold spec_liThree.f
  rw [show (40 : Nat) = 35 + 5 from rfl, all_three]
  simp only [l1In_eq, Option.bind_some]
  cases h1 : (decide (0 ≤ a) && decide (a ≤ 12)) <;> cases h2 : (decide (0 ≤ b) && decide (b ≤ 12)) <;> cases h3 : (decide (0 ≤ c) && decide (c ≤ 12)) <;> simp
  simp at h1 h2 h3
  have hw : wrap64 (wrap64 (a + b) + c) = a + b + c := by unfold wrap64; omega
  rw [hw]
  exact fun _ h => ⟨h1, h2, h3, h⟩
theorem table : ∀ a, a < 13 → ∀ b, b < 13 - a → ∀ c, c < 13 - a - b →
    (spec_liMany.f 40 (a : Nat) (b : Nat) (c : Nat) == impl_lines.f 40 (a : Nat) (b : Nat) (c : Nat) && (spec_liMany.f 40 (a : Nat) (b : Nat) (c : Nat)).isSome) = true := by
  decide +kernel
theorem FnExactCountLines : laws_FnExactCountLines.Pure := by
  intro a b c _ _ _
  refine ⟨40, ?_⟩
  unfold laws_FnExactCountLines.f spec_CountLines.f impl_CountLines.f
  obtain ⟨t, ht, hb⟩ := numbers_some a b c
  rw [numbers_eq, ht]
  simp only [Option.bind_some]
  cases t with
  | false => simp
  | true =>
    obtain ⟨⟨a0, _⟩, ⟨b0, _⟩, ⟨c0, _⟩, hs⟩ := hb rfl
    obtain ⟨a, rfl⟩ := Int.eq_ofNat_of_zero_le a0
    obtain ⟨b, rfl⟩ := Int.eq_ofNat_of_zero_le b0
    obtain ⟨c, rfl⟩ := Int.eq_ofNat_of_zero_le c0
    have ht := table a (by omega) b (by omega) c (by omega)
    simp only [Bool.and_eq_true, beq_iff_eq] at ht
    obtain ⟨r, hr⟩ := Option.isSome_iff_exists.mp ht.2
    have hr2 := ht.1.symm.trans hr
    simp only [if_true]
    rw [hr, hr2]
    simp

end Go.Proofs.Yticlpfeeokghnaa.PureCountLines

namespace Go.Proofs.Yticlpfeeokghnaa.Pure
open Go Go.RowKit Go.Proofs.Yticlpfeeokghnaa.PFnExactCountLines

theorem FnExactCountLines : laws_FnExactCountLines.Pure := PureCountLines.FnExactCountLines

end Go.Proofs.Yticlpfeeokghnaa.Pure
