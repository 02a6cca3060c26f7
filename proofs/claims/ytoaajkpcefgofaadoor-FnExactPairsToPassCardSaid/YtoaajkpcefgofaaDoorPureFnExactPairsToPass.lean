/- FnExactPairsToPass without Go: for every text that memory holds, the program's PairsToPass is the reference's. -/
import Derived.Test.YtoaajkpcefgofaaDoorLAline
import Derived.Test.YtoaajkpcefgofaaDoorXA1
import Derived.Test.YtoaajkpcefgofaaDoorXA3
import Derived.Test.YtoaajkpcefgofaaDoorXA4
namespace Go.Proofs.YtoaajkpcefgofaaDoor.Pure
set_option linter.unusedVariables false
set_option linter.unusedSimpArgs false
open Go Go.RowKit Go.Proofs.YtoaajkpcefgofaaDoorW.PrintWords Go.Proofs.YtoaajkpcefgofaaDoor.XA Go.Proofs.YtoaajkpcefgofaaDoorB
theorem pairs_same (a : ByteArray) : ∀ (k : Nat) (s t i : Int), impl_pairs.l0 k a s t (a.size : Int) i = spec_liPairs.l0 k a s t i
  | 0, _, _, _ => by simp only [impl_pairs.l0, spec_liPairs.l0]
  | k + 1, s, t, i => by
    simp only [impl_pairs.l0, spec_liPairs.l0, pairs_same a k]
    by_cases h : i < (a.size : Int) <;> simp [h]
theorem pairs_total (a : ByteArray) (hs : a.size ≤ 140737488351232) : ∀ (d i k : Nat) (s t : Int), i + d = a.size → d < k → ∃ r, spec_liPairs.l0 k a s t (i : Int) = some r := by
  intro d
  induction d with
  | zero =>
    intro i k s t hi hk
    obtain ⟨k, rfl⟩ : ∃ m, k = m + 1 := ⟨k - 1, by omega⟩
    simp only [spec_liPairs.l0]
    rw [if_neg (by omega)]
    exact ⟨_, rfl⟩
  | succ d ih =>
    intro i k s t hi hk
    obtain ⟨k, rfl⟩ : ∃ m, k = m + 1 := ⟨k - 1, by omega⟩
    simp only [spec_liPairs.l0]
    rw [if_pos (by omega), if_pos (by omega), w64_succ (n := a.size) (by omega) hs]
    split
    · exact ih (i + 1) k _ _ (by omega) (by omega)
    · split
      · exact ih (i + 1) k _ _ (by omega) (by omega)
      · exact ih (i + 1) k _ _ (by omega) (by omega)
theorem FnExactPairsToPass (a : ByteArray) (hs : a.size ≤ 140737488351232) : ∃ k, laws_FnExactPairsToPass.f k a = some true := by
  refine ⟨100, ?_⟩
  unfold laws_FnExactPairsToPass.f
  split
  · rfl
  have hr : ∃ r, spec_PairsToPass.f 100 a = some r ∧ impl_PairsToPass.f 100 a = some r := by
    unfold spec_PairsToPass.f impl_PairsToPass.f impl_IsLine.f spec_liPairs.f impl_pairs.f
    rw [liGood_eq a hs 100 (by omega), show impl_isLineOf.f a 12 = some (isLine 12 a) from isLineOf_eq a 12 hs, pairs_same]
    simp only [Option.bind_some]
    cases hL : isLine 12 a with
    | false => exact ⟨_, rfl, rfl⟩
    | true =>
      obtain ⟨h1, h12, _⟩ := isLine_size hL
      obtain ⟨r, hr⟩ := pairs_total a hs a.size 0 100 0 0 (by omega) (by omega)
      have hr' : spec_liPairs.l0 100 a 0 0 0 = some r := hr
      rw [hr']
      exact ⟨_, rfl, rfl⟩
  obtain ⟨r, h1, h2⟩ := hr
  exact law_two _ _ r h1 h2
end Go.Proofs.YtoaajkpcefgofaaDoor.Pure
