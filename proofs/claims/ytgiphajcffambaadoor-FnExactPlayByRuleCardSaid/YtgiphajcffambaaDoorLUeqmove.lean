/- The laws' own comparison of lists of moves: a list is itself. For all lists of at most 10000000 moves. -/
import Derived.Test.YtgiphajcffambaaDoorXU0
import Derived.Test.YtgiphajcffambaaDoorXU2
import Derived.Test.YtgiphajcffambaaDoorXU3
import Derived.Test.YtgiphajcffambaaDoorLUcollect
namespace Go.Proofs.YtgiphajcffambaaDoor.XU
set_option linter.unusedVariables false
set_option linter.unusedSimpArgs false
open Go Go.RowKit Go.Proofs.YtgiphajcffambaaDoorW.PrintWords Go.Proofs.YtgiphajcffambaaDoorB

theorem eqMoveS_l0 (l : List S46) (hs : l.length ≤ 10000000) : ∀ (d i k : Nat), i + d = l.length → d < k → laws_eqMoveS.l0 k l l (i : Int) = some true := by
  intro d
  induction d with
  | zero =>
    intro i k hi hk
    obtain ⟨k, rfl⟩ : ∃ m, k = m + 1 := ⟨k - 1, by omega⟩
    simp only [laws_eqMoveS.l0]
    rw [if_neg (by omega)]
  | succ d ih =>
    intro i k hi hk
    obtain ⟨k, rfl⟩ : ∃ m, k = m + 1 := ⟨k - 1, by omega⟩
    simp only [laws_eqMoveS.l0]
    rw [if_pos (by omega), if_pos (by omega), if_pos (by omega), w64_succ (n := l.length) (by omega) (by omega)]
    unfold laws_eqMove.f
    rw [if_pos rfl, if_pos rfl]
    simp only [Option.bind_some, if_true]
    exact ih (i + 1) k (by omega) (by omega)
theorem eqMoveS_same (l : List S46) (hs : l.length ≤ 10000000) (k : Nat) (hk : l.length < k) : laws_eqMoveS.f k l l = some true := by
  unfold laws_eqMoveS.f
  rw [if_pos rfl]
  exact eqMoveS_l0 l hs l.length 0 k (by omega) hk
end Go.Proofs.YtgiphajcffambaaDoor.XU
