/- The laws' own conversion of a list of moves: it answers, with as many. For all lists of at most 10000000 moves. -/
import Derived.Test.YtgiphajcffambaaDoorXU0
import Derived.Test.YtgiphajcffambaaDoorXU2
import Derived.Test.YtgiphajcffambaaDoorLUcollect
namespace Go.Proofs.YtgiphajcffambaaDoor.XU
set_option linter.unusedVariables false
set_option linter.unusedSimpArgs false
open Go Go.RowKit Go.Proofs.YtgiphajcffambaaDoorW.PrintWords Go.Proofs.YtgiphajcffambaaDoorB

theorem toMoveS_l0 (l : List S55) (hs : l.length ≤ 10000000) : ∀ (d i : Nat) (acc : List S46), acc.length = l.length → i + d = l.length → ∃ r : List S46, r.length = l.length ∧ ∀ k, d < k → laws_toMoveS.l0 k l acc (i : Int) = some r := by
  intro d
  induction d with
  | zero =>
    intro i acc ha hi
    refine ⟨acc, ha, fun k hk => ?_⟩
    obtain ⟨k, rfl⟩ : ∃ m, k = m + 1 := ⟨k - 1, by omega⟩
    simp only [laws_toMoveS.l0]
    rw [if_neg (by omega)]
  | succ d ih =>
    intro i acc ha hi
    obtain ⟨r, hr, h⟩ := ih (i + 1) (acc.set i ⟨(rd_T55 l (i : Int)).f0, (rd_T55 l (i : Int)).f1⟩) (by rw [List.length_set]; exact ha) (by omega)
    refine ⟨r, hr, fun k hk => ?_⟩
    obtain ⟨k, rfl⟩ : ∃ m, k = m + 1 := ⟨k - 1, by omega⟩
    simp only [laws_toMoveS.l0]
    rw [if_pos (by omega), if_pos (by omega), show laws_toMove.f (rd_T55 l (i : Int)).f0 (rd_T55 l (i : Int)).f1 = some ((rd_T55 l (i : Int)).f0, (rd_T55 l (i : Int)).f1) from rfl]
    simp only [Option.bind_some]
    rw [if_pos (by omega), w64_succ (n := l.length) (by omega) (by omega), Int.toNat_natCast]
    exact h k (by omega)
theorem toMoveS_eq (l : List S55) (hs : l.length ≤ 10000000) : ∃ r : List S46, r.length = l.length ∧ ∀ k, l.length < k → laws_toMoveS.f k l = some r := by
  obtain ⟨r, hr, h⟩ := toMoveS_l0 l hs l.length 0 (List.replicate l.length z46) (by simp) (by omega)
  refine ⟨r, hr, fun k hk => ?_⟩
  unfold laws_toMoveS.f
  rw [if_pos (by omega), if_pos (by omega), Int.toNat_natCast]
  exact h k hk
end Go.Proofs.YtgiphajcffambaaDoor.XU
