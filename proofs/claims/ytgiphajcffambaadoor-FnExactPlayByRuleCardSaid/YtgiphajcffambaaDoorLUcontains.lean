/- Whether a move is in a list: the library's search, for all lists of at most 1000 moves. -/
import Derived.Test.YtgiphajcffambaaDoorXU0
import Derived.Test.YtgiphajcffambaaDoorXU5
import Derived.Test.YtgiphajcffambaaDoorLUcollect
namespace Go.Proofs.YtgiphajcffambaaDoor.XU
set_option linter.unusedVariables false
set_option linter.unusedSimpArgs false
open Go Go.RowKit Go.Proofs.YtgiphajcffambaaDoorW.PrintWords Go.Proofs.YtgiphajcffambaaDoorB

theorem index_l0 (l : List S46) (hs : l.length ≤ 1000) (f t : Int) : ∀ (d i k : Nat), i + d = l.length → d < k → ∃ r : Int, impl_Move_79.l0 k l (l.length : Int) (i : Int) f t = some r ∧ (0 ≤ r ↔ (⟨f, t⟩ : S46) ∈ l.drop i) := by
  intro d
  induction d with
  | zero =>
    intro i k hi hk
    obtain ⟨k, rfl⟩ : ∃ m, k = m + 1 := ⟨k - 1, by omega⟩
    refine ⟨-1, ?_, ?_⟩
    · simp only [impl_Move_79.l0]
      rw [if_neg (by omega)]
    · rw [List.drop_of_length_le (by omega)]
      simp
  | succ d ih =>
    intro i k hi hk
    obtain ⟨k, rfl⟩ : ∃ m, k = m + 1 := ⟨k - 1, by omega⟩
    simp only [impl_Move_79.l0]
    rw [if_pos (by omega), if_pos (by omega), if_pos (by omega), rd_drop l i (by omega), w64_succ (n := l.length) (by omega) (by omega)]
    generalize rd_T46 l (i : Int) = m
    by_cases h : f = m.f0 ∧ t = m.f1
    · refine ⟨(i : Int), ?_, ?_⟩
      · rw [if_pos (by simp [h.1, h.2])]
      · obtain ⟨x, y⟩ := m
        obtain ⟨rfl, rfl⟩ := h
        simp
    · obtain ⟨r, h1, h2⟩ := ih (i + 1) k (by omega) (by omega)
      refine ⟨r, ?_, ?_⟩
      · rw [if_neg (by simpa using h), h1]
      · rw [h2]
        obtain ⟨x, y⟩ := m
        constructor
        · exact fun h => List.mem_cons_of_mem _ h
        · intro h3
          rcases List.mem_cons.1 h3 with h3 | h3
          · cases h3
            exact absurd ⟨rfl, rfl⟩ h
          · exact h3
theorem contains_eq (l : List S46) (hs : l.length ≤ 1000) (f t : Int) (k : Nat) (hk : l.length < k) : impl_Move_54.f k l f t = some (decide ((⟨f, t⟩ : S46) ∈ l)) := by
  unfold impl_Move_54.f impl_Move_79.f
  obtain ⟨r, h1, h2⟩ := index_l0 l hs f t l.length 0 k (by omega) hk
  rw [show impl_Move_79.l0 k l (l.length : Int) 0 f t = some r from h1]
  simp only [Option.bind_some, ge_iff_le]
  rw [List.drop_zero] at h2
  rw [decide_eq_decide.2 h2]
end Go.Proofs.YtgiphajcffambaaDoor.XU
