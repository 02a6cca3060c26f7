/- The laws' own marks on a list of numbers: what was returned is marked, and the marks are found again. For all lists of at most 1000 numbers. -/
import Derived.Test.YtoaajkpcefgofaaDoorXA5
import Derived.Test.YtoaajkpcefgofaaDoorXA6
import Derived.Test.YtoaajkpcefgofaaDoorB
namespace Go.Proofs.YtoaajkpcefgofaaDoor.XA
set_option linter.unusedVariables false
set_option linter.unusedSimpArgs false
open Go Go.RowKit Go.Proofs.YtoaajkpcefgofaaDoorW.PrintWords Go.Proofs.YtoaajkpcefgofaaDoorB

theorem eqIntS_l0 (l : List Int) (hs : l.length ≤ 1000) : ∀ (d i k : Nat), i + d = l.length → d < k → laws_eqIntS.l0 k l l (i : Int) = some true := by
  intro d
  induction d with
  | zero =>
    intro i k hi hk
    obtain ⟨k, rfl⟩ : ∃ m, k = m + 1 := ⟨k - 1, by omega⟩
    simp only [laws_eqIntS.l0]
    rw [if_neg (by omega)]
  | succ d ih =>
    intro i k hi hk
    obtain ⟨k, rfl⟩ : ∃ m, k = m + 1 := ⟨k - 1, by omega⟩
    simp only [laws_eqIntS.l0]
    rw [if_pos (by omega), if_pos (by omega), if_pos (by omega), w64_succ (n := l.length) (by omega) (by omega)]
    exact ih (i + 1) k (by omega) (by omega)
theorem eqIntS_same (l : List Int) (hs : l.length ≤ 1000) (k : Nat) (hk : l.length < k) : laws_eqIntS.f k l l = some true := by
  unfold laws_eqIntS.f
  rw [if_pos rfl]
  exact eqIntS_l0 l hs l.length 0 k (by omega) hk
theorem rd_set (l : List Int) (i j : Nat) (v : Int) (hi : i < l.length) : rd (l.set i v) (j : Int) = if j = i then v else rd l (j : Int) := by
  unfold rd
  rw [Int.toNat_natCast, List.getD_eq_getElem?_getD, List.getD_eq_getElem?_getD, List.getElem?_set]
  by_cases h : j = i
  · subst h
    simp [hi]
  · rw [if_neg (fun e => h e.symm), if_neg h]
theorem markIntS_l0 (n : Nat) (hs : n ≤ 1000) : ∀ (d i k : Nat) (l : List Int), l.length = n → i + d = n → d < k → (∀ j : Nat, j < i → rd l (j : Int) = (j : Int) + 1) →
    ∃ y, laws_markIntS.l0 k l ((i : Int) + 1) (i : Int) = some ((n : Int) + 1, y) ∧ y.length = n ∧ ∀ j : Nat, j < n → rd y (j : Int) = (j : Int) + 1 := by
  intro d
  induction d with
  | zero =>
    intro i k l hl hi hk h
    obtain ⟨k, rfl⟩ : ∃ m, k = m + 1 := ⟨k - 1, by omega⟩
    simp only [laws_markIntS.l0]
    rw [if_neg (by omega), show (i : Int) = (n : Int) from by omega]
    exact ⟨l, rfl, hl, fun j hj => h j (by omega)⟩
  | succ d ih =>
    intro i k l hl hi hk h
    obtain ⟨k, rfl⟩ : ∃ m, k = m + 1 := ⟨k - 1, by omega⟩
    simp only [laws_markIntS.l0]
    rw [if_pos (by omega), if_pos (by omega), w64_succ (n := n) (by omega) (by omega), Int.toNat_natCast, w64 (x := (i : Int) + 1 + 1) (by omega) (by omega)]
    exact ih (i + 1) k (l.set i ((i : Int) + 1)) (by rw [List.length_set]; exact hl) (by omega) (by omega) fun j hj => by
      rw [rd_set l i j _ (by omega)]
      by_cases e : j = i
      · rw [if_pos e, e]
      · rw [if_neg e]
        exact h j (by omega)
theorem markIntS_eq (l : List Int) (hs : l.length ≤ 1000) (k : Nat) (hk : l.length < k) : ∃ y, laws_markIntS.f k l 1 = some ((l.length : Int) + 1, y) ∧ y.length = l.length ∧ ∀ j : Nat, j < l.length → rd y (j : Int) = (j : Int) + 1 :=
  markIntS_l0 l.length hs l.length 0 k l rfl (by omega) hk (fun j hj => by omega)
theorem heldIntS_l0 (y : List Int) (hs : y.length ≤ 1000) (h : ∀ j : Nat, j < y.length → rd y (j : Int) = (j : Int) + 1) : ∀ (d i k : Nat), i + d = y.length → d < k → laws_heldIntS.l0 k y ((i : Int) + 1) (i : Int) = some ((y.length : Int) + 1) := by
  intro d
  induction d with
  | zero =>
    intro i k hi hk
    obtain ⟨k, rfl⟩ : ∃ m, k = m + 1 := ⟨k - 1, by omega⟩
    simp only [laws_heldIntS.l0]
    rw [if_neg (by omega), show (i : Int) = (y.length : Int) from by omega]
  | succ d ih =>
    intro i k hi hk
    obtain ⟨k, rfl⟩ : ∃ m, k = m + 1 := ⟨k - 1, by omega⟩
    simp only [laws_heldIntS.l0]
    rw [if_pos (by omega), if_pos (by omega), if_pos (h i (by omega)), w64 (x := (i : Int) + 1 + 1) (by omega) (by omega), w64_succ (n := y.length) (by omega) (by omega)]
    exact ih (i + 1) k (by omega) (by omega)
theorem heldIntS_eq (y : List Int) (hs : y.length ≤ 1000) (h : ∀ j : Nat, j < y.length → rd y (j : Int) = (j : Int) + 1) (k : Nat) (hk : y.length < k) : laws_heldIntS.f k y 1 = some ((y.length : Int) + 1) :=
  heldIntS_l0 y hs h y.length 0 k (by omega) hk
end Go.Proofs.YtoaajkpcefgofaaDoor.XA
