/- The word of a list of moves, for the reference and for the program: for all lines of 1 to 1000 signs and all lists of at most 1000 moves. -/
import Derived.Test.YtjleaiknpbihcaaDoorXA0
import Derived.Test.YtjleaiknpbihcaaDoorXA2
import Derived.Test.YtjleaiknpbihcaaDoorXA49
import Derived.Test.YtjleaiknpbihcaaDoorXA50
import Derived.Test.YtjleaiknpbihcaaDoorXA51
import Derived.Test.YtjleaiknpbihcaaDoorLAgoal
import Derived.Test.YtjleaiknpbihcaaDoorLAmake
import Derived.Test.YtjleaiknpbihcaaDoorLAheldM
namespace Go.Proofs.YtjleaiknpbihcaaDoor.XA
set_option linter.unusedVariables false
set_option linter.unusedSimpArgs false
open Go Go.RowKit Go.Proofs.YtjleaiknpbihcaaDoorW.PrintWords Go.Proofs.YtjleaiknpbihcaaDoorB

theorem toMoveS_l0 (l : List S26) (hs : l.length ≤ 10000000) : ∀ (d i : Nat) (acc : List S28), acc.length = l.length → i + d = l.length → ∃ r : List S28, r.length = l.length ∧ ∀ k, d < k → laws_toMoveS.l0 k l acc (i : Int) = some r := by
  intro d
  induction d with
  | zero =>
    intro i acc ha hi
    refine ⟨acc, ha, fun k hk => ?_⟩
    obtain ⟨k, rfl⟩ : ∃ m, k = m + 1 := ⟨k - 1, by omega⟩
    simp only [laws_toMoveS.l0]
    rw [if_neg (by omega)]
  | succ d ih =>
    intro i acc ha hi
    obtain ⟨r, hr, h⟩ := ih (i + 1) (acc.set i ⟨(rd_T26 l (i : Int)).f0, (rd_T26 l (i : Int)).f1⟩) (by rw [List.length_set]; exact ha) (by omega)
    refine ⟨r, hr, fun k hk => ?_⟩
    obtain ⟨k, rfl⟩ : ∃ m, k = m + 1 := ⟨k - 1, by omega⟩
    simp only [laws_toMoveS.l0]
    rw [if_pos (by omega), if_pos (by omega), show laws_toMove.f (rd_T26 l (i : Int)).f0 (rd_T26 l (i : Int)).f1 = some ((rd_T26 l (i : Int)).f0, (rd_T26 l (i : Int)).f1) from rfl]
    simp only [Option.bind_some]
    rw [if_pos (by omega), w64_succ (n := l.length) (by omega) (by omega), Int.toNat_natCast]
    exact h k (by omega)
theorem toMoveS_eq (l : List S26) (hs : l.length ≤ 10000000) : ∃ r : List S28, r.length = l.length ∧ ∀ k, l.length < k → laws_toMoveS.f k l = some r := by
  obtain ⟨r, hr, h⟩ := toMoveS_l0 l hs l.length 0 (List.replicate l.length z28) (by simp) (by omega)
  refine ⟨r, hr, fun k hk => ?_⟩
  unfold laws_toMoveS.f
  rw [if_pos (by omega), if_pos (by omega), Int.toNat_natCast]
  exact h k hk
theorem bt_getD (a : ByteArray) (i : Nat) (hi : i < a.size) : bt a (i : Int) = ((a.data.toList.getD i 0).toNat : Int) := by
  obtain ⟨c, hd, hb⟩ := bt_eq a i hi
  have h2 : (a.data.toList.drop i)[0]? = some c := by rw [hd]; rfl
  rw [List.getElem?_drop, Nat.add_zero] at h2
  rw [hb, List.getD_eq_getElem?_getD, h2]
  rfl
theorem nums_snoc (xs : List Int) (c : UInt8) : strOfNums xs ++ (⟨#[c]⟩ : ByteArray) = strOfNums (xs ++ [(c.toNat : Int)]) := by
  apply ba_eq
  rw [list_append]
  unfold strOfNums
  simp
theorem nums_size (xs : List Int) : (strOfNums xs).size = xs.length := by
  unfold strOfNums ByteArray.size
  simp
theorem word_l0 (l : List S28) (hl : l.length ≤ 1000) : ∀ (d i : Nat) (a : ByteArray) (xs : List Int), 1 ≤ a.size → a.size ≤ 1000 → xs.length ≤ i → i + d = l.length →
    ∃ r, ∀ k, d + 1 < k → spec_WordOfMoves.l0 k a (strOfNums xs) l (l.length : Int) (i : Int) = some r ∧ impl_WordOfMoves.l0 k a xs l (l.length : Int) (i : Int) = some r := by
  intro d
  induction d with
  | zero =>
    intro i a xs h1 h2 hx hi
    refine ⟨(strOfNums xs, true), fun k hk => ?_⟩
    obtain ⟨k, rfl⟩ : ∃ m, k = m + 1 := ⟨k - 1, by omega⟩
    simp only [spec_WordOfMoves.l0, impl_WordOfMoves.l0]
    rw [if_neg (by omega), if_neg (by omega)]
    exact ⟨rfl, rfl⟩
  | succ d ih =>
    intro i a xs h1 h2 hx hi
    have hil : i < l.length := by omega
    have hl2 : l.length ≤ 140737488351232 := by omega
    have z1 : (i : Int) < (l.length : Int) := by omega
    have z2 : (0 : Int) ≤ (i : Int) := by omega
    by_cases hc : canP a (rd_T28 l (i : Int)).f0 (rd_T28 l (i : Int)).f1
    case neg =>
      refine ⟨((⟨#[]⟩ : ByteArray), false), fun k hk => ?_⟩
      obtain ⟨k, rfl⟩ : ∃ m, k = m + 1 := ⟨k - 1, by omega⟩
      simp only [spec_WordOfMoves.l0, impl_WordOfMoves.l0]
      rw [if_pos z1, if_pos z2, if_pos z1, if_pos z1, if_pos z2, if_pos z1, liCan_eq a h1 h2 _ _ k (by omega), impl_can_eq a h1 h2, decide_eq_false hc]
      exact ⟨rfl, rfl⟩
    have hc2 := hc
    obtain ⟨f0, f1, t0, t1, _, hd⟩ := hc2
    generalize hm : rd_T28 l (i : Int) = m at *
    obtain ⟨f, t⟩ := m
    simp only at *
    have hne : f ≠ t := by omega
    obtain ⟨j, rfl⟩ : ∃ j : Nat, f = (j : Int) := ⟨f.toNat, by omega⟩
    have hj : j < a.size := by omega
    obtain ⟨r, hr⟩ := ih (i + 1) (mv a (j : Int) t) (xs ++ [bt a (j : Int)]) (by rw [mv_size]; exact h1) (by rw [mv_size]; exact h2) (by rw [List.length_append, List.length_singleton]; omega) (by omega)
    refine ⟨r, fun k hk => ?_⟩
    obtain ⟨k, rfl⟩ : ∃ m, k = m + 1 := ⟨k - 1, by omega⟩
    have z3 : (j : Int) ≤ ((j + 1 : Nat) : Int) := by omega
    have z4 : ((j + 1 : Nat) : Int) ≤ (a.size : Int) := by omega
    have z5 : (strOfNums xs).size + (a.extract j (j + 1)).size ≤ 9223372036854775807 := by rw [nums_size, ByteArray.size_extract]; omega
    have z6 : xs.length < 140737488355328 := by omega
    have e1 : strOfNums xs ++ a.extract j (j + 1) = strOfNums (xs ++ [bt a (j : Int)]) := by rw [extract_one a j hj, nums_snoc, bt_getD a j hj]
    have k2 : 1 ≤ k := by omega
    have k3 : d + 1 < k := by omega
    have w2 : wrap64 ((j : Int) + 1) = ((j + 1 : Nat) : Int) := w64_succ (n := a.size) hj (by omega)
    have w : wrap64 ((i : Int) + 1) = ((i + 1 : Nat) : Int) := w64_succ (n := l.length) hil hl2
    simp only [spec_WordOfMoves.l0, impl_WordOfMoves.l0, hm]
    rw [if_pos z1, if_pos z2, if_pos z1, if_pos z1, if_pos z2, if_pos z1, liCan_eq a h1 h2 _ _ k k2, impl_can_eq a h1 h2, decide_eq_true hc, w, w2]
    simp only [Option.bind_some, if_true, Int.toNat_natCast]
    rw [if_pos f0, if_pos z3, if_pos z4, if_pos z5, if_pos f0, if_pos f1, if_pos z6, liMake_eq a h2 _ _ f0 f1 t0 t1 hne, impl_made_eq a h2 _ _ f0 f1 t0 t1 hne]
    simp only [Option.bind_some]
    rw [e1]
    exact hr k k3
end Go.Proofs.YtjleaiknpbihcaaDoor.XA
