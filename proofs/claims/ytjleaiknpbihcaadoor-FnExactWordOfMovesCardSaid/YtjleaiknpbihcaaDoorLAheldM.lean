/- The laws' own marks on a list of moves: what was returned is marked, and the marks are found again. For all lists of at most 1000 moves. -/
import Derived.Test.YtjleaiknpbihcaaDoorXA0
import Derived.Test.YtjleaiknpbihcaaDoorXA3
import Derived.Test.YtjleaiknpbihcaaDoorXA43
import Derived.Test.YtjleaiknpbihcaaDoorXA44
import Derived.Test.YtjleaiknpbihcaaDoorLAcollect
namespace Go.Proofs.YtjleaiknpbihcaaDoor.XA
set_option linter.unusedVariables false
set_option linter.unusedSimpArgs false
open Go Go.RowKit Go.Proofs.YtjleaiknpbihcaaDoorW.PrintWords Go.Proofs.YtjleaiknpbihcaaDoorB

theorem eqMoveS_l0 (l : List S28) (hs : l.length ≤ 10000000) : ∀ (d i k : Nat), i + d = l.length → d < k → laws_eqMoveS.l0 k l l (i : Int) = some true := by
  intro d
  induction d with
  | zero =>
    intro i k hi hk
    obtain ⟨k, rfl⟩ : ∃ m, k = m + 1 := ⟨k - 1, by omega⟩
    simp only [laws_eqMoveS.l0]
    rw [if_neg (by omega)]
  | succ d ih =>
    intro i k hi hk
    obtain ⟨k, rfl⟩ : ∃ m, k = m + 1 := ⟨k - 1, by omega⟩
    simp only [laws_eqMoveS.l0]
    rw [if_pos (by omega), if_pos (by omega), if_pos (by omega), w64_succ (n := l.length) (by omega) (by omega)]
    unfold laws_eqMove.f
    rw [if_pos rfl, if_pos rfl]
    simp only [Option.bind_some, if_true]
    exact ih (i + 1) k (by omega) (by omega)
theorem eqMoveS_same (l : List S28) (hs : l.length ≤ 10000000) (k : Nat) (hk : l.length < k) : laws_eqMoveS.f k l l = some true := by
  unfold laws_eqMoveS.f
  rw [if_pos rfl]
  exact eqMoveS_l0 l hs l.length 0 k (by omega) hk
theorem rdM_set (l : List S28) (i j : Nat) (v : S28) (hi : i < l.length) : rd_T28 (l.set i v) (j : Int) = if j = i then v else rd_T28 l (j : Int) := by
  unfold rd_T28
  rw [Int.toNat_natCast, List.getD_eq_getElem?_getD, List.getD_eq_getElem?_getD, List.getElem?_set]
  by_cases h : j = i
  · subst h
    simp [hi]
  · rw [if_neg (fun e => h e.symm), if_neg h]
theorem markMoveS_l0 (n : Nat) (hs : n ≤ 1000) : ∀ (d i k : Nat) (l : List S28), l.length = n → i + d = n → d < k → (∀ j : Nat, j < i → rd_T28 l (j : Int) = ⟨2 * (j : Int) + 1, 2 * (j : Int) + 2⟩) →
    ∃ y, laws_markMoveS.l0 k l (2 * (i : Int) + 1) (i : Int) = some (2 * (n : Int) + 1, y) ∧ y.length = n ∧ ∀ j : Nat, j < n → rd_T28 y (j : Int) = ⟨2 * (j : Int) + 1, 2 * (j : Int) + 2⟩ := by
  intro d
  induction d with
  | zero =>
    intro i k l hl hi hk h
    obtain ⟨k, rfl⟩ : ∃ m, k = m + 1 := ⟨k - 1, by omega⟩
    simp only [laws_markMoveS.l0]
    rw [if_neg (by omega), show (i : Int) = (n : Int) from by omega]
    exact ⟨l, rfl, hl, fun j hj => h j (by omega)⟩
  | succ d ih =>
    intro i k l hl hi hk h
    obtain ⟨k, rfl⟩ : ∃ m, k = m + 1 := ⟨k - 1, by omega⟩
    simp only [laws_markMoveS.l0]
    have w1 : wrap64 (2 * (i : Int) + 1 + 1) = 2 * (i : Int) + 2 := by rw [w64 (by omega) (by omega)]; omega
    have w2 : wrap64 (2 * (i : Int) + 2 + 1) = 2 * ((i + 1 : Nat) : Int) + 1 := by rw [w64 (by omega) (by omega)]; omega
    rw [if_pos (by omega), if_pos (by omega), w64_succ (n := n) (by omega) (by omega), Int.toNat_natCast, w1, w2]
    simp only [Option.bind_some]
    have hf : rd_T28 (l.set i ⟨2 * (i : Int) + 1, (rd_T28 l (i : Int)).f1⟩) (i : Int) = ⟨2 * (i : Int) + 1, (rd_T28 l (i : Int)).f1⟩ := by rw [rdM_set l i i _ (by omega), if_pos rfl]
    rw [hf]
    simp only
    exact ih (i + 1) k ((l.set i ⟨2 * (i : Int) + 1, (rd_T28 l (i : Int)).f1⟩).set i ⟨2 * (i : Int) + 1, 2 * (i : Int) + 2⟩) (by rw [List.length_set, List.length_set]; exact hl) (by omega) (by omega) fun j hj => by
      rw [rdM_set _ i j _ (by rw [List.length_set]; omega)]
      by_cases e : j = i
      · rw [if_pos e, e]
      · rw [if_neg e, rdM_set l i j _ (by omega), if_neg e]
        exact h j (by omega)
theorem markMoveS_eq (l : List S28) (hs : l.length ≤ 1000) (k : Nat) (hk : l.length < k) : ∃ y, laws_markMoveS.f k l 1 = some (2 * (l.length : Int) + 1, y) ∧ y.length = l.length ∧ ∀ j : Nat, j < l.length → rd_T28 y (j : Int) = ⟨2 * (j : Int) + 1, 2 * (j : Int) + 2⟩ :=
  markMoveS_l0 l.length hs l.length 0 k l rfl (by omega) hk (fun j hj => by omega)
theorem heldMoveS_l0 (y : List S28) (hs : y.length ≤ 1000) (h : ∀ j : Nat, j < y.length → rd_T28 y (j : Int) = ⟨2 * (j : Int) + 1, 2 * (j : Int) + 2⟩) : ∀ (d i k : Nat), i + d = y.length → d < k → laws_heldMoveS.l0 k y (2 * (i : Int) + 1) (i : Int) = some (2 * (y.length : Int) + 1) := by
  intro d
  induction d with
  | zero =>
    intro i k hi hk
    obtain ⟨k, rfl⟩ : ∃ m, k = m + 1 := ⟨k - 1, by omega⟩
    simp only [laws_heldMoveS.l0]
    rw [if_neg (by omega), show (i : Int) = (y.length : Int) from by omega]
  | succ d ih =>
    intro i k hi hk
    obtain ⟨k, rfl⟩ : ∃ m, k = m + 1 := ⟨k - 1, by omega⟩
    simp only [laws_heldMoveS.l0]
    have w1 : wrap64 (2 * (i : Int) + 1 + 1) = 2 * (i : Int) + 2 := by rw [w64 (by omega) (by omega)]; omega
    have w2 : wrap64 (2 * (i : Int) + 2 + 1) = 2 * ((i + 1 : Nat) : Int) + 1 := by rw [w64 (by omega) (by omega)]; omega
    rw [if_pos (by omega), if_pos (by omega), h i (by omega), w1]
    simp only
    rw [if_pos trivial, if_pos trivial, w2, w64_succ (n := y.length) (by omega) (by omega)]
    exact ih (i + 1) k (by omega) (by omega)
theorem heldMoveS_eq (y : List S28) (hs : y.length ≤ 1000) (h : ∀ j : Nat, j < y.length → rd_T28 y (j : Int) = ⟨2 * (j : Int) + 1, 2 * (j : Int) + 2⟩) (k : Nat) (hk : y.length < k) : laws_heldMoveS.f k y 1 = some (2 * (y.length : Int) + 1) :=
  heldMoveS_l0 y hs h y.length 0 k (by omega) hk
end Go.Proofs.YtjleaiknpbihcaaDoor.XA
