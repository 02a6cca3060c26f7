/- FnExactRunsOfWord without Go: for every text that memory holds, the program's RunsOfWord is the reference's, and what it returned stays as it was. -/
import Derived.Test.YtoaajkpcefgofaaDoorLAword
import Derived.Test.YtoaajkpcefgofaaDoorLAheld
import Derived.Test.YtoaajkpcefgofaaDoorXA4
import Derived.Test.YtoaajkpcefgofaaDoorXA5
import Derived.Test.YtoaajkpcefgofaaDoorXA6
namespace Go.Proofs.YtoaajkpcefgofaaDoor.Pure
set_option linter.unusedVariables false
set_option linter.unusedSimpArgs false
open Go Go.RowKit Go.Proofs.YtoaajkpcefgofaaDoorW.PrintWords Go.Proofs.YtoaajkpcefgofaaDoor.XA Go.Proofs.YtoaajkpcefgofaaDoorB
theorem runs_both (a : ByteArray) (hs : a.size ≤ 1000) : ∀ (d i : Nat) (l : List Int), i + d = a.size → l.length ≤ i → (0 < i → 0 < l.length) →
    ∃ r : List Int, r.length ≤ a.size ∧ ∀ k, d < k → spec_RunsOfWord.l0 k a l (i : Int) = some (r, true) ∧ impl_RunsOfWord.l0 k a l (a.size : Int) (i : Int) = some (r, true) := by
  intro d
  induction d with
  | zero =>
    intro i l hi h1 h2
    refine ⟨l, by omega, fun k hk => ?_⟩
    obtain ⟨k, rfl⟩ : ∃ m, k = m + 1 := ⟨k - 1, by omega⟩
    simp only [spec_RunsOfWord.l0, impl_RunsOfWord.l0]
    rw [if_neg (by omega), if_neg (by omega)]
    exact ⟨rfl, rfl⟩
  | succ d ih =>
    intro i l hi h1 h2
    have hlen : ((l ++ [0] : List Int).length : Int) - 1 = (l.length : Int) := by rw [List.length_append]; simp
    by_cases h0 : i = 0
    · subst h0
      obtain ⟨r, hr, hk⟩ := ih (0 + 1) ((l ++ [0]).set (l.length : Int).toNat (wrap64 (rd (l ++ [0]) (l.length : Int) + 1))) (by omega) (by rw [List.length_set, List.length_append, List.length_singleton]; omega) (fun _ => by rw [List.length_set, List.length_append, List.length_singleton]; omega)
      refine ⟨r, hr, fun k hk' => ?_⟩
      obtain ⟨k, rfl⟩ : ∃ m, k = m + 1 := ⟨k - 1, by omega⟩
      simp only [spec_RunsOfWord.l0, impl_RunsOfWord.l0]
      rw [w64_succ (i := 0) (n := a.size) (by omega) (by omega)]
      have q1 : ((0 : Nat) : Int) < (a.size : Int) := by omega
      have q0 : (0 : Int) < (a.size : Int) := by omega
      have q2 : ((0 : Nat) : Int) = 0 := rfl
      have q3 : l.length < 17592186044416 := by omega
      have q4 : wrap64 (((l ++ [0] : List Int).length : Int) - 1) = (l.length : Int) := by rw [hlen]; exact w64 (by omega) (by omega)
      have q5 : (0 : Int) ≤ (l.length : Int) := by omega
      have q6 : (l.length : Int) < ((l ++ [0] : List Int).length : Int) := by omega
      simp only [q0, q1, q2, q3, q4, q5, q6, if_true, Option.bind_some]
      exact hk k (by omega)
    · have hl1 := h2 (by omega)
      have hsym : (bt a ((i : Int) - 1) = bt a (i : Int)) = (bt a (i : Int) = bt a ((i : Int) - 1)) := propext ⟨Eq.symm, Eq.symm⟩
      have w1 : wrap64 ((i : Int) - 1) = (i : Int) - 1 := w64 (by omega) (by omega)
      have w2 : wrap64 ((l.length : Int) - 1) = (l.length : Int) - 1 := w64 (by omega) (by omega)
      have w3 : wrap64 (((l ++ [0] : List Int).length : Int) - 1) = (l.length : Int) := by rw [hlen]; exact w64 (by omega) (by omega)
      have w4 : wrap64 ((i : Int) + 1) = ((i + 1 : Nat) : Int) := w64_succ (n := a.size) (by omega) (by omega)
      have q1 : (i : Int) < (a.size : Int) := by omega
      have q2 : ((i : Int) = 0) = False := eq_false (by omega)
      have q3 : (0 : Int) ≤ (i : Int) := by omega
      have q4 : (0 : Int) ≤ (i : Int) - 1 := by omega
      have q5 : (i : Int) - 1 < (a.size : Int) := by omega
      have q6 : (0 : Int) ≤ (l.length : Int) - 1 := by omega
      have q7 : (l.length : Int) - 1 < (l.length : Int) := by omega
      have q8 : l.length < 17592186044416 := by omega
      have q9 : (0 : Int) ≤ (l.length : Int) := by omega
      have q10 : (l.length : Int) < ((l ++ [0] : List Int).length : Int) := by omega
      clear hlen
      by_cases hc : bt a (i : Int) = bt a ((i : Int) - 1)
      · obtain ⟨r, hr, hk⟩ := ih (i + 1) (l.set ((l.length : Int) - 1).toNat (wrap64 (rd l ((l.length : Int) - 1) + 1))) (by omega) (by rw [List.length_set]; omega) (fun _ => by rw [List.length_set]; omega)
        refine ⟨r, hr, fun k hk' => ?_⟩
        obtain ⟨k, rfl⟩ : ∃ m, k = m + 1 := ⟨k - 1, by omega⟩
        simp only [spec_RunsOfWord.l0, impl_RunsOfWord.l0, w1, hsym]
        simp only [w2, w4, q1, q2, q3, q4, q5, q6, q7, hc, if_true, if_false]
        exact hk k (by omega)
      · obtain ⟨r, hr, hk⟩ := ih (i + 1) ((l ++ [0]).set (l.length : Int).toNat (wrap64 (rd (l ++ [0]) (l.length : Int) + 1))) (by omega) (by rw [List.length_set, List.length_append, List.length_singleton]; omega) (fun _ => by rw [List.length_set, List.length_append, List.length_singleton]; omega)
        refine ⟨r, hr, fun k hk' => ?_⟩
        obtain ⟨k, rfl⟩ : ∃ m, k = m + 1 := ⟨k - 1, by omega⟩
        simp only [spec_RunsOfWord.l0, impl_RunsOfWord.l0, w1, hsym]
        simp only [w3, w4, q1, q2, q3, q4, q5, q8, q9, q10, hc, if_true, if_false, Option.bind_some]
        exact hk k (by omega)
theorem FnExactRunsOfWord (a : ByteArray) (hs : a.size ≤ 140737488351232) : ∃ k, laws_FnExactRunsOfWord.f k a = some true := by
  refine ⟨200, ?_⟩
  have hr : ∃ (r : List Int) (b : Bool), r.length ≤ 40 ∧ (∀ k, 100 ≤ k → spec_RunsOfWord.f k a = some (r, b) ∧ impl_RunsOfWord.f k a = some (r, b)) := by
    cases hL : isWord a with
    | false =>
      refine ⟨[], false, by simp, fun k hk => ?_⟩
      unfold spec_RunsOfWord.f impl_RunsOfWord.f
      rw [woGood_eq a hs k (by omega), impl_IsWord_eq a hs, hL]
      exact ⟨rfl, rfl⟩
    | true =>
      have h40 : a.size ≤ 40 := by
        unfold isWord at hL
        simp only [Bool.and_eq_true, decide_eq_true_eq] at hL
        exact hL.1
      obtain ⟨r, hlr, hk⟩ := runs_both a (by omega) a.size 0 [] (by omega) (by simp) (by omega)
      refine ⟨r, true, by omega, fun k hk' => ?_⟩
      unfold spec_RunsOfWord.f impl_RunsOfWord.f
      rw [woGood_eq a hs k (by omega), impl_IsWord_eq a hs, hL]
      exact hk k (by omega)
  obtain ⟨r, b, hlr, hk⟩ := hr
  unfold laws_FnExactRunsOfWord.f
  split
  · rfl
  rw [(hk 200 (by omega)).1, (hk 200 (by omega)).2]
  simp only [Option.bind_some]
  rw [eqIntS_same r (by omega) 200 (by omega)]
  simp only [Option.bind_some, if_true, bne_self_eq_false]
  simp only [laws_FnExactRunsOfWord.j0]
  rw [if_neg (by decide)]
  obtain ⟨y, hm, hy, hj⟩ := markIntS_eq r (by omega) 199 (by omega)
  rw [hm]
  simp only [Option.bind_some]
  rw [heldIntS_eq y (by omega) (fun j h => hj j (by omega)) 199 (by omega)]
  simp only [Option.bind_some]
  rw [if_neg (by omega), if_pos (by omega), (hk 199 (by omega)).2]
  simp only [Option.bind_some]
  rw [eqIntS_same r (by omega) 199 (by omega)]
  simp only [Option.bind_some, if_true, bne_self_eq_false]
  simp only [laws_FnExactRunsOfWord.j1]
  rw [if_neg (by decide), heldIntS_eq y (by omega) (fun j h => hj j (by omega)) 198 (by omega)]
  simp only [Option.bind_some]
  rw [if_neg (by omega), if_pos (by omega)]
end Go.Proofs.YtoaajkpcefgofaaDoor.Pure
