/- FnExactOtherWord without Go: for every text that memory holds, the program's OtherWord is the reference's. -/
import Derived.Test.YtoaajkpcefgofaaDoorLOWword
import Derived.Test.YtoaajkpcefgofaaDoorXOW1
import Derived.Test.YtoaajkpcefgofaaDoorXOW2
namespace Go.Proofs.YtoaajkpcefgofaaDoor.Pure
set_option linter.unusedVariables false
set_option linter.unusedSimpArgs false
open Go Go.RowKit Go.Proofs.YtoaajkpcefgofaaDoorW.PrintWords Go.Proofs.YtoaajkpcefgofaaDoor.XOW Go.Proofs.YtoaajkpcefgofaaDoorB
def oth2 (c : UInt8) : UInt8 := if c = 84 then 70 else 84
theorem other_l0 (a : ByteArray) (hs : a.size ≤ 1000) : ∀ (d i k : Nat) (acc : ByteArray), i + d = a.size → d < k → acc.size ≤ i → spec_OtherWord.l0 k a acc (i : Int) = some ((⟨(acc.data.toList ++ (a.data.toList.drop i).map oth2).toArray⟩ : ByteArray), true) := by
  intro d
  induction d with
  | zero =>
    intro i k acc hi hk ha
    obtain ⟨k, rfl⟩ : ∃ m, k = m + 1 := ⟨k - 1, by omega⟩
    simp only [spec_OtherWord.l0]
    rw [if_neg (by omega), List.drop_of_length_le (by rw [data_length]; omega), List.map_nil, List.append_nil]
  | succ d ih =>
    intro i k acc hi hk ha
    obtain ⟨k, rfl⟩ : ∃ m, k = m + 1 := ⟨k - 1, by omega⟩
    obtain ⟨x, hd, hb⟩ := bt_eq a i (by omega)
    have w := w64_succ (i := i) (n := a.size) (by omega) (by omega)
    have h1 : ∀ c : UInt8, (acc ++ (⟨#[c]⟩ : ByteArray)).size ≤ i + 1 := fun c => by rw [ByteArray.size_append, show (⟨#[c]⟩ : ByteArray).size = 1 from rfl]; omega
    have h2 : ∀ c : UInt8, (acc ++ (⟨#[c]⟩ : ByteArray)).data.toList = acc.data.toList ++ [c] := fun c => by simp
    have z1 : (i : Int) < (a.size : Int) := by omega
    have z2 : (0 : Int) ≤ (i : Int) := by omega
    have z3 : acc.size + 1 ≤ 9223372036854775807 := by omega
    have g1 := ih (i + 1) k (acc ++ (⟨#[70]⟩ : ByteArray)) (by omega) (by omega) (h1 70)
    have g2 := ih (i + 1) k (acc ++ (⟨#[84]⟩ : ByteArray)) (by omega) (by omega) (h1 84)
    simp only [spec_OtherWord.l0]
    rw [if_pos z1, if_pos z2, hb, w, hd, if_pos z3, if_pos z3, g1, g2, h2, h2, List.map_cons]
    simp only [is84]
    by_cases h : x = 84
    · rw [if_pos h, show oth2 x = 70 from if_pos h, List.append_assoc]
      rfl
    · rw [if_neg h, show oth2 x = 84 from if_neg h, List.append_assoc]
      rfl
theorem FnExactOtherWord (a : ByteArray) (hs : a.size ≤ 140737488351232) : ∃ k, laws_FnExactOtherWord.f k a = some true := by
  refine ⟨100, ?_⟩
  have hr : ∃ r, spec_OtherWord.f 100 a = some r ∧ impl_OtherWord.f a = some r := by
    unfold spec_OtherWord.f impl_OtherWord.f
    rw [woGood_eq a hs 100 (by omega), impl_IsWord_eq a hs]
    simp only [Option.bind_some]
    cases hL : isWord a with
    | false => exact ⟨_, rfl, rfl⟩
    | true =>
      unfold isWord at hL
      simp only [Bool.and_eq_true, decide_eq_true_eq] at hL
      obtain ⟨h40, htf⟩ := hL
      simp only [if_true]
      rw [if_pos hs, show spec_OtherWord.l0 100 a (⟨#[]⟩ : ByteArray) 0 = _ from other_l0 a (by omega) a.size 0 100 ⟨#[]⟩ (by omega) (by omega) (Nat.le_refl 0)]
      have e : a.data.toList.map othb = a.data.toList.map oth2 := by
        apply List.map_congr_left
        intro c hc
        have h := List.all_eq_true.1 htf c hc
        unfold tf at h
        simp only [Bool.or_eq_true, beq_iff_eq] at h
        rcases h with rfl | rfl <;> rfl
      rw [e]
      exact ⟨_, rfl, rfl⟩
  obtain ⟨r, h1, h2⟩ := hr
  unfold laws_FnExactOtherWord.f
  split
  · rfl
  rw [h1, h2]
  simp
end Go.Proofs.YtoaajkpcefgofaaDoor.Pure
