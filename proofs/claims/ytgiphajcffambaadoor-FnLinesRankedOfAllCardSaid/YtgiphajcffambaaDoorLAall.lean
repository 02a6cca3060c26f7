/- Plain facts on lines, moves and searches, for the statement at hand: each theorem names its conditions. -/
import Derived.Test.YtgiphajcffambaaDoorB
import Derived.Test.YtgiphajcffambaaDoorXW
import Derived.Test.YtgiphajcffambaaDoorRanks
import Derived.Test.YtgiphajcffambaaDoorXA0
import Derived.Test.YtgiphajcffambaaDoorXA1
import Derived.Test.YtgiphajcffambaaDoorXA2
import Derived.Test.YtgiphajcffambaaDoorXA3
import Derived.Test.YtgiphajcffambaaDoorXA4
import Derived.Test.YtgiphajcffambaaDoorXA5
import Derived.Test.YtgiphajcffambaaDoorXA6
import Derived.Test.YtgiphajcffambaaDoorXA7
import Derived.Test.YtgiphajcffambaaDoorXA8
namespace Go.Proofs.YtgiphajcffambaaDoor.XA
set_option linter.unusedVariables false
set_option linter.unusedSimpArgs false
open Go Go.RowKit Go.Proofs.YtgiphajcffambaaDoorW.PrintWords Go.Proofs.YtgiphajcffambaaDoorB

theorem l1In_eq (a b c : Int) : spec_l1In.f a b c = some (decide (b ≤ a) && decide (a ≤ c)) := by
  unfold spec_l1In.f
  by_cases h : b ≤ a <;> simp [h]
theorem within_eq (a b c : Int) : impl_within.f a b c = some (decide (b ≤ a) && decide (a ≤ c)) := by
  unfold impl_within.f
  by_cases h : b ≤ a <;> simp [h]
end Go.Proofs.YtgiphajcffambaaDoor.XA

namespace Go.Proofs.YtgiphajcffambaaDoor.XA
set_option linter.unusedVariables false
set_option linter.unusedSimpArgs false
open Go Go.RowKit Go.Proofs.YtgiphajcffambaaDoorW.PrintWords Go.Proofs.YtgiphajcffambaaDoorB

theorem liGood_l0 (a : ByteArray) (hs : a.size ≤ 140737488351232) : ∀ (d i k : Nat), i + d = a.size → d < k → spec_liGood.l0 k a (i : Int) = some ((a.data.toList.drop i).all sgn) := by
  intro d
  induction d with
  | zero =>
    intro i k hi hk
    obtain ⟨k, rfl⟩ : ∃ m, k = m + 1 := ⟨k - 1, by omega⟩
    simp only [spec_liGood.l0]
    rw [if_neg (by omega), List.drop_of_length_le (by rw [data_length]; omega)]
    rfl
  | succ d ih =>
    intro i k hi hk
    obtain ⟨k, rfl⟩ : ∃ m, k = m + 1 := ⟨k - 1, by omega⟩
    obtain ⟨c, hd, hb⟩ := bt_eq a i (by omega)
    simp only [spec_liGood.l0]
    rw [if_pos (by omega), if_pos (by omega), hb, w64_succ (n := a.size) (by omega) hs, ih (i + 1) k (by omega) (by omega), hd, List.all_cons]
    simp only [is84, is70, is46]
    by_cases h1 : c = 84
    · subst h1; simp [sgn]
    by_cases h2 : c = 70
    · subst h2; simp [sgn]
    by_cases h3 : c = 46
    · subst h3; simp [sgn]
    simp [h1, h2, h3, sgn]
theorem liGood_eq (a : ByteArray) (hs : a.size ≤ 140737488351232) (k : Nat) (hk : 20 ≤ k) : spec_liGood.f k a = some (isLine 12 a) := by
  unfold spec_liGood.f isLine
  rw [l1In_eq]
  simp only [Option.bind_some]
  by_cases h1 : 1 ≤ a.size
  · by_cases h2 : a.size ≤ 12
    · have h := liGood_l0 a hs a.size 0 k (by omega) (by omega)
      rw [List.drop_zero] at h
      rw [if_pos (by simp; omega)]
      simp only [h1, h2, decide_true, Bool.true_and]
      exact h
    · rw [if_neg (by simp; omega)]
      simp [h2]
  · rw [if_neg (by simp; omega)]
    simp [h1]
theorem isLineOf_eq (a : ByteArray) (m : Nat) (hs : a.size ≤ 140737488351232) : impl_isLineOf.f a (m : Int) = some (isLine m a) := by
  unfold impl_isLineOf.f isLine
  rw [within_eq]
  simp only [Option.bind_some]
  by_cases h1 : 1 ≤ a.size
  · by_cases h2 : a.size ≤ m
    · rw [if_pos (by simp; omega)]
      unfold strings_Trim.f
      rw [if_pos ⟨by omega, by decide, by decide⟩]
      simp only [Option.bind_some, h1, h2, decide_true, Bool.true_and]
      exact congrArg some (trim_sgn _)
    · rw [if_neg (by simp; omega)]
      simp [h2]
  · rw [if_neg (by simp; omega)]
    simp [h1]
end Go.Proofs.YtgiphajcffambaaDoor.XA

namespace Go.Proofs.YtgiphajcffambaaDoor.XA
set_option linter.unusedVariables false
set_option linter.unusedSimpArgs false
open Go Go.RowKit Go.Proofs.YtgiphajcffambaaDoorW.PrintWords Go.Proofs.YtgiphajcffambaaDoorB

/-- the sign at a place, 0 outside -/
def sg (a : ByteArray) (i : Int) : Int := if 0 ≤ i ∧ i < (a.size : Int) then bt a i else 0
theorem impl_at_eq (a : ByteArray) (i : Int) : impl_at.f a i = some (sg a i) := by
  unfold impl_at.f sg
  by_cases h0 : i < 0
  · rw [if_pos h0, if_neg (by omega)]
  · rw [if_neg h0]
    by_cases h1 : i ≥ (a.size : Int)
    · rw [if_pos h1, if_neg (by omega)]
    · rw [if_neg h1, if_pos (by omega), if_pos (by omega), if_pos (by omega)]
theorem sg_in {a : ByteArray} {i : Int} (h0 : 0 ≤ i) (h1 : i < (a.size : Int)) : sg a i = bt a i := if_pos ⟨h0, h1⟩
theorem sg_is {a : ByteArray} {i c : Int} (h : sg a i = c) (hc : c ≠ 0) : 0 ≤ i ∧ i < (a.size : Int) ∧ bt a i = c := by
  unfold sg at h
  split at h
  · rename_i hi
    exact ⟨hi.1, hi.2, h⟩
  · exact absurd h.symm hc
end Go.Proofs.YtgiphajcffambaaDoor.XA

namespace Go.Proofs.YtgiphajcffambaaDoor.XA
set_option linter.unusedVariables false
set_option linter.unusedSimpArgs false
open Go Go.RowKit Go.Proofs.YtgiphajcffambaaDoorW.PrintWords Go.Proofs.YtgiphajcffambaaDoorB

def canP (a : ByteArray) (f t : Int) : Prop := 0 ≤ f ∧ f < (a.size : Int) ∧ 0 ≤ t ∧ t < (a.size : Int) ∧ bt a t = 46 ∧
  ((bt a f = 84 ∧ (t = f + 1 ∨ (t = f + 2 ∧ bt a (f + 1) = 70))) ∨ (bt a f = 70 ∧ (t = f + (-1) ∨ (t = f + (-2) ∧ bt a (f + (-1)) = 84))))
instance (a : ByteArray) (f t : Int) : Decidable (canP a f t) := by unfold canP; infer_instance
theorem liCan_eq (a : ByteArray) (hs1 : 1 ≤ a.size) (hs : a.size ≤ 1000) (f t : Int) (k : Nat) (hk : 1 ≤ k) : spec_liCan.f k a f t = some (decide (canP a f t)) := by
  obtain ⟨k, rfl⟩ : ∃ m, k = m + 1 := ⟨k - 1, by omega⟩
  unfold spec_liCan.f
  have e : wrap64 ((a.size : Int) - 1) = (a.size : Int) - 1 := w64 (by omega) (by omega)
  rw [e, l1In_eq, l1In_eq]
  simp only [Option.bind_some, spec_liCan.j0]
  by_cases hf : 0 ≤ f ∧ f ≤ (a.size : Int) - 1
  case neg =>
    rw [if_neg (by simp; omega), if_pos trivial, decide_eq_false (fun h => hf ⟨h.1, by have := h.2.1; omega⟩)]
  rw [if_pos (by simp; omega)]
  by_cases ht : 0 ≤ t ∧ t ≤ (a.size : Int) - 1
  case neg =>
    rw [if_neg (by simp; omega), if_pos trivial, decide_eq_false (fun h => ht ⟨h.2.2.1, by have := h.2.2.2.1; omega⟩)]
  rw [if_pos (by simp; omega), if_pos ht.1, if_pos (show t < (a.size : Int) by omega)]
  by_cases h46 : bt a t = 46
  case neg =>
    rw [if_pos (by simpa using h46), decide_eq_false (fun h => h46 h.2.2.2.2.1)]
  have f1 : f < (a.size : Int) := by omega
  have t1 : t < (a.size : Int) := by omega
  rw [show (bt a t != 46) = false from by simp [h46], if_neg (by decide), if_pos hf.1, if_pos f1, w64 (x := f + 1) (by omega) (by omega), w64 (x := f + 2) (by omega) (by omega), w64 (x := f + (-1)) (by omega) (by omega), w64 (x := f + (-2)) (by omega) (by omega)]
  by_cases c84 : bt a f = 84
  · rw [if_pos c84]
    by_cases q1 : t = f + 1
    · rw [if_pos q1, decide_eq_true (show canP a f t from ⟨hf.1, f1, ht.1, t1, h46, .inl ⟨c84, .inl q1⟩⟩)]
    · rw [if_neg q1]
      by_cases q2 : t = f + 2
      · rw [if_pos q2, if_pos (by omega), if_pos (by omega)]
        by_cases q3 : bt a (f + 1) = 70
        · rw [decide_eq_true (show canP a f t from ⟨hf.1, f1, ht.1, t1, h46, .inl ⟨c84, .inr ⟨q2, q3⟩⟩⟩), q3]
          rfl
        · rw [decide_eq_false (fun h => ?_), show (bt a (f + 1) == 70) = false from by simp [q3]]
          rcases h.2.2.2.2.2 with ⟨_, h | h⟩ | ⟨h, _⟩
          · exact q1 h
          · exact q3 h.2
          · omega
      · rw [if_neg q2, decide_eq_false (fun h => ?_)]
        rcases h.2.2.2.2.2 with ⟨_, h | h⟩ | ⟨h, _⟩
        · exact q1 h
        · exact q2 h.1
        · omega
  · rw [if_neg c84]
    by_cases c70 : bt a f = 70
    · rw [if_pos c70]
      by_cases q1 : t = f + (-1)
      · rw [if_pos q1, decide_eq_true (show canP a f t from ⟨hf.1, f1, ht.1, t1, h46, .inr ⟨c70, .inl q1⟩⟩)]
      · rw [if_neg q1]
        by_cases q2 : t = f + (-2)
        · rw [if_pos q2, if_pos (by omega), if_pos (by omega)]
          by_cases q3 : bt a (f + (-1)) = 84
          · rw [decide_eq_true (show canP a f t from ⟨hf.1, f1, ht.1, t1, h46, .inr ⟨c70, .inr ⟨q2, q3⟩⟩⟩), q3]
            rfl
          · rw [decide_eq_false (fun h => ?_), show (bt a (f + (-1)) == 84) = false from by simp [q3]]
            rcases h.2.2.2.2.2 with ⟨h, _⟩ | ⟨_, h | h⟩
            · exact c84 h
            · exact q1 h
            · exact q3 h.2
        · rw [if_neg q2, decide_eq_false (fun h => ?_)]
          rcases h.2.2.2.2.2 with ⟨h, _⟩ | ⟨_, h | h⟩
          · exact c84 h
          · exact q1 h
          · exact q2 h.1
    · rw [if_neg c70, decide_eq_false (fun h => ?_)]
      rcases h.2.2.2.2.2 with ⟨h, _⟩ | ⟨h, _⟩
      · exact c84 h
      · exact c70 h
theorem impl_can_eq (a : ByteArray) (hs1 : 1 ≤ a.size) (hs : a.size ≤ 1000) (f t : Int) : impl_can.f a f t = some (decide (canP a f t)) := by
  unfold impl_can.f
  have e : wrap64 ((a.size : Int) - 1) = (a.size : Int) - 1 := w64 (by omega) (by omega)
  rw [e, within_eq]
  simp only [Option.bind_some]
  by_cases hf : 0 ≤ f ∧ f ≤ (a.size : Int) - 1
  case neg =>
    rw [if_neg (by simp; omega), decide_eq_false (fun h => hf ⟨h.1, by have := h.2.1; omega⟩)]
  rw [if_pos (by simp; omega)]
  have f1 : f < (a.size : Int) := by omega
  unfold impl_goal.f
  rw [if_pos hf.1, if_pos f1]
  unfold impl_stepOf.f impl_other.f
  by_cases c84 : bt a f = 84
  · rw [if_pos c84]
    simp only [Option.bind_some, impl_at_eq]
    rw [if_neg (by decide), w64 (x := f + 1) (by omega) (by omega), w64 (x := 2 * 1) (by omega) (by omega), w64 (x := f + 2 * 1) (by omega) (by omega), if_pos c84]
    simp only [Option.bind_some]
    by_cases q1 : sg a (f + 1) = 46
    · obtain ⟨g0, g1, g2⟩ := sg_is q1 (by decide)
      rw [if_pos q1]
      simp only [Option.bind_some, if_true]
      by_cases q2 : t = f + 1
      · subst q2
        rw [decide_eq_true (show canP a f (f + 1) from ⟨hf.1, f1, g0, g1, g2, .inl ⟨c84, .inl rfl⟩⟩), beq_self_eq_true]
      · rw [decide_eq_false (fun h => ?_), show (f + 1 == t) = false from by simp; omega]
        rcases h.2.2.2.2.2 with ⟨_, h | h⟩ | ⟨h, _⟩ <;> omega
    · rw [if_neg q1]
      by_cases q2 : sg a (f + 1) = 70
      · obtain ⟨g0, g1, g2⟩ := sg_is q2 (by decide)
        rw [if_pos q2]
        by_cases q3 : sg a (f + 2 * 1) = 46
        · obtain ⟨m0, m1, m2⟩ := sg_is q3 (by decide)
          rw [if_pos q3]
          simp only [Option.bind_some, if_true]
          by_cases q4 : t = f + 2 * 1
          · subst q4
            rw [decide_eq_true (show canP a f (f + 2 * 1) from ⟨hf.1, f1, m0, m1, m2, .inl ⟨c84, .inr ⟨rfl, g2⟩⟩⟩), beq_self_eq_true]
          · rw [decide_eq_false (fun h => ?_), show (f + 2 * 1 == t) = false from by simp; omega]
            have h5 := h.2.2.2.2.1
            rcases h.2.2.2.2.2 with ⟨_, h | h⟩ | ⟨h, _⟩
            · subst h; omega
            · omega
            · omega
        · rw [if_neg q3]
          simp only [Option.bind_some]
          rw [if_neg (by decide), decide_eq_false (fun h => ?_)]
          have h3 := h.2.2.1
          have h4 := h.2.2.2.1
          have h5 := h.2.2.2.2.1
          rcases h.2.2.2.2.2 with ⟨_, h | h⟩ | ⟨h, _⟩
          · subst h; omega
          · have h6 := h.1
            subst h6
            exact q3 ((sg_in h3 h4).trans h5)
          · omega
      · rw [if_neg q2]
        simp only [Option.bind_some]
        rw [if_neg (by decide), decide_eq_false (fun h => ?_)]
        have h3 := h.2.2.1
        have h4 := h.2.2.2.1
        have h5 := h.2.2.2.2.1
        rcases h.2.2.2.2.2 with ⟨_, h | h⟩ | ⟨h, _⟩
        · subst h
          exact q1 ((sg_in h3 h4).trans h5)
        · exact q2 ((sg_in (by omega) (by omega)).trans h.2)
        · omega
  · rw [if_neg c84]
    by_cases c70 : bt a f = 70
    · rw [if_pos c70]
      simp only [Option.bind_some, impl_at_eq]
      rw [if_neg (by decide), w64 (x := f + -1) (by omega) (by omega), w64 (x := 2 * -1) (by omega) (by omega), w64 (x := f + 2 * -1) (by omega) (by omega), if_neg c84, if_pos c70]
      simp only [Option.bind_some]
      by_cases q1 : sg a (f + -1) = 46
      · obtain ⟨g0, g1, g2⟩ := sg_is q1 (by decide)
        rw [if_pos q1]
        simp only [Option.bind_some, if_true]
        by_cases q2 : t = f + -1
        · subst q2
          rw [decide_eq_true (show canP a f (f + -1) from ⟨hf.1, f1, g0, g1, g2, .inr ⟨c70, .inl rfl⟩⟩), beq_self_eq_true]
        · rw [decide_eq_false (fun h => ?_), show (f + -1 == t) = false from by simp; omega]
          rcases h.2.2.2.2.2 with ⟨h, _⟩ | ⟨_, h | h⟩ <;> omega
      · rw [if_neg q1]
        by_cases q2 : sg a (f + -1) = 84
        · obtain ⟨g0, g1, g2⟩ := sg_is q2 (by decide)
          rw [if_pos q2]
          by_cases q3 : sg a (f + 2 * -1) = 46
          · obtain ⟨m0, m1, m2⟩ := sg_is q3 (by decide)
            rw [if_pos q3]
            simp only [Option.bind_some, if_true]
            by_cases q4 : t = f + 2 * -1
            · subst q4
              rw [decide_eq_true (show canP a f (f + 2 * -1) from ⟨hf.1, f1, m0, m1, m2, .inr ⟨c70, .inr ⟨rfl, g2⟩⟩⟩), beq_self_eq_true]
            · rw [decide_eq_false (fun h => ?_), show (f + 2 * -1 == t) = false from by simp; omega]
              have h5 := h.2.2.2.2.1
              rcases h.2.2.2.2.2 with ⟨h, _⟩ | ⟨_, h | h⟩
              · omega
              · subst h; omega
              · omega
          · rw [if_neg q3]
            simp only [Option.bind_some]
            rw [if_neg (by decide), decide_eq_false (fun h => ?_)]
            have h3 := h.2.2.1
            have h4 := h.2.2.2.1
            have h5 := h.2.2.2.2.1
            rcases h.2.2.2.2.2 with ⟨h, _⟩ | ⟨_, h | h⟩
            · omega
            · subst h; omega
            · have h6 := h.1
              subst h6
              exact q3 ((sg_in h3 h4).trans h5)
        · rw [if_neg q2]
          simp only [Option.bind_some]
          rw [if_neg (by decide), decide_eq_false (fun h => ?_)]
          have h3 := h.2.2.1
          have h4 := h.2.2.2.1
          have h5 := h.2.2.2.2.1
          rcases h.2.2.2.2.2 with ⟨h, _⟩ | ⟨_, h | h⟩
          · omega
          · subst h
            exact q1 ((sg_in h3 h4).trans h5)
          · exact q2 ((sg_in (by omega) (by omega)).trans h.2)
    · rw [if_neg c70]
      simp only [Option.bind_some]
      rw [if_pos trivial]
      simp only [Option.bind_some]
      rw [if_neg (by decide), decide_eq_false (fun h => ?_)]
      rcases h.2.2.2.2.2 with ⟨h, _⟩ | ⟨h, _⟩
      · exact c84 h
      · exact c70 h
end Go.Proofs.YtgiphajcffambaaDoor.XA

namespace Go.Proofs.YtgiphajcffambaaDoor.XA
set_option linter.unusedVariables false
set_option linter.unusedSimpArgs false
open Go Go.RowKit Go.Proofs.YtgiphajcffambaaDoorW.PrintWords Go.Proofs.YtgiphajcffambaaDoorB

theorem ba_eq {x y : ByteArray} (h : x.data.toList = y.data.toList) : x = y := by rw [← Lib.mk_data x, ← Lib.mk_data y, h]
theorem list_extract (a : ByteArray) (i j : Nat) : (a.extract i j).data.toList = (a.data.toList.drop i).take (j - i) := by
  simp
theorem list_append (x y : ByteArray) : (x ++ y).data.toList = x.data.toList ++ y.data.toList := by simp
/-- the text with the sign of one place moved to another -/
def mv (a : ByteArray) (f t : Int) : ByteArray := ⟨((a.data.toList.set t.toNat (a.data.toList.getD f.toNat 0)).set f.toNat 46).toArray⟩
theorem mv_size (a : ByteArray) (f t : Int) : (mv a f t).size = a.size := by
  unfold mv ByteArray.size
  simp
theorem liPut_eq (a : ByteArray) (hs : a.size ≤ 1000) (i : Nat) (hi : i < a.size) (c : UInt8) : spec_liPut.f a (i : Int) ⟨#[c]⟩ = some ⟨(a.data.toList.set i c).toArray⟩ := by
  unfold spec_liPut.f
  rw [w64_succ (n := a.size) hi (by omega), Int.toNat_natCast, Int.toNat_natCast]
  have s1 : (a.extract 0 i).size = i := by rw [ByteArray.size_extract]; omega
  have s2 : (⟨#[c]⟩ : ByteArray).size = 1 := rfl
  have s3 : (a.extract (i + 1) a.size).size = a.size - (i + 1) := by rw [ByteArray.size_extract]; omega
  rw [if_pos (by omega), if_pos (by omega), if_pos (by rw [s1, s2]; omega), if_pos (by omega), if_pos (by omega), if_pos (by rw [ByteArray.size_append, s1, s2, s3]; omega)]
  congr 1
  apply ba_eq
  have hl : i < a.data.toList.length := by rw [data_length]; exact hi
  rw [list_append, list_append, list_extract, list_extract, List.set_eq_take_append_cons_drop, if_pos hl, List.take_of_length_le (l := List.drop (i + 1) a.data.toList) (by rw [List.length_drop, data_length]; exact Nat.le_refl _)]
  simp
theorem extract_one (a : ByteArray) (i : Nat) (hi : i < a.size) : a.extract i (i + 1) = ⟨#[a.data.toList.getD i 0]⟩ := by
  apply ba_eq
  have hl : i < a.data.toList.length := by rw [data_length]; exact hi
  rw [list_extract, List.drop_eq_getElem_cons hl, show i + 1 - i = 1 from by omega, List.getD_eq_getElem?_getD, List.getElem?_eq_getElem hl]
  rfl
theorem liMake_eq (a : ByteArray) (hs : a.size ≤ 1000) (f t : Int) (f0 : 0 ≤ f) (f1 : f < (a.size : Int)) (t0 : 0 ≤ t) (t1 : t < (a.size : Int)) (ne : f ≠ t) : spec_liMake.f a f t = some (mv a f t) := by
  obtain ⟨i, rfl⟩ : ∃ i : Nat, f = (i : Int) := ⟨f.toNat, by omega⟩
  obtain ⟨j, rfl⟩ : ∃ j : Nat, t = (j : Int) := ⟨t.toNat, by omega⟩
  unfold spec_liMake.f mv
  rw [w64_succ (n := a.size) (by omega) (by omega), Int.toNat_natCast, Int.toNat_natCast, Int.toNat_natCast, if_pos (by omega), if_pos (by omega), if_pos (by omega), liPut_eq a hs i (by omega) 46, extract_one a i (by omega)]
  simp only [Option.bind_some]
  have e : (⟨(a.data.toList.set i 46).toArray⟩ : ByteArray).size = a.size := by unfold ByteArray.size; simp
  rw [liPut_eq _ (by omega) j (by omega)]
  simp only [Option.bind_some]
  congr 2
  rw [List.set_comm _ _ (show j ≠ i from by omega)]
theorem impl_made_eq (a : ByteArray) (hs : a.size ≤ 1000) (f t : Int) (f0 : 0 ≤ f) (f1 : f < (a.size : Int)) (t0 : 0 ≤ t) (t1 : t < (a.size : Int)) (ne : f ≠ t) : impl_made.f a f t = some (mv a f t) :=
  if_pos ⟨by omega, f0, f1, t0, t1, ne⟩
end Go.Proofs.YtgiphajcffambaaDoor.XA

namespace Go.Proofs.YtgiphajcffambaaDoor.XA
set_option linter.unusedVariables false
set_option linter.unusedSimpArgs false
open Go Go.RowKit Go.Proofs.YtgiphajcffambaaDoorW.PrintWords Go.Proofs.YtgiphajcffambaaDoorB
theorem rd_drop (l : List S46) (i : Nat) (hi : i < l.length) : l.drop i = rd_T46 l (i : Int) :: l.drop (i + 1) := by
  rw [List.drop_eq_getElem_cons hi]
  unfold rd_T46
  rw [Int.toNat_natCast, List.getD_eq_getElem?_getD, List.getElem?_eq_getElem hi]
  rfl
end Go.Proofs.YtgiphajcffambaaDoor.XA

namespace Go.Proofs.YtgiphajcffambaaDoor.XA
set_option linter.unusedVariables false
set_option linter.unusedSimpArgs false
open Go Go.RowKit Go.Proofs.YtgiphajcffambaaDoorW.PrintWords Go.Proofs.YtgiphajcffambaaDoorB

/-- the text at which it stops, and how many moves were made -/
def stop (c : ByteArray → Int → Int → Bool) : List S46 → ByteArray → Nat → ByteArray × Nat
  | [], s, i => (s, i)
  | m :: l, s, i => if c s m.f0 m.f1 = true then stop c l (mv s m.f0 m.f1) (i + 1) else (s, i)
theorem stop_yes {c : ByteArray → Int → Int → Bool} {m : S46} {l : List S46} {s : ByteArray} {i : Nat} (h : c s m.f0 m.f1 = true) : stop c (m :: l) s i = stop c l (mv s m.f0 m.f1) (i + 1) := by rw [stop, if_pos h]
theorem stop_no {c : ByteArray → Int → Int → Bool} {m : S46} {l : List S46} {s : ByteArray} {i : Nat} (h : ¬ c s m.f0 m.f1 = true) : stop c (m :: l) s i = (s, i) := by rw [stop, if_neg h]
theorem stop_le (c : ByteArray → Int → Int → Bool) : ∀ (l : List S46) (s : ByteArray) (i : Nat), i ≤ (stop c l s i).2 ∧ (stop c l s i).2 ≤ i + l.length
  | [], _, i => by simp [stop]
  | m :: l, s, i => by
    unfold stop
    split
    · have := stop_le c l (mv s m.f0 m.f1) (i + 1)
      rw [List.length_cons]
      omega
    · simp
/-- what the program makes of it -/
def ends (c : ByteArray → Int → Int → Bool) (l : List S46) (s : ByteArray) (i : Nat) : ByteArray × Int := (if (stop c l s i).2 = i + l.length then (stop c l s i).1 else ⟨#[]⟩, ((stop c l s i).2 : Int))
theorem playL_eq (I : ByteArray → Prop) (c' : ByteArray → Int → Int → Option Bool) (c : ByteArray → Int → Int → Bool) (hc : ∀ s f t, I s → c' s f t = some (c s f t))
    (hm : ∀ s f t, I s → c s f t = true → impl_made.f s f t = some (mv s f t) ∧ I (mv s f t)) : ∀ (l : List S46) (s : ByteArray) (i : Nat), I s → playL c' l s i = some (ends c l s i)
  | [], s, i, _ => by simp [playL, ends, stop]
  | m :: l, s, i, hI => by
    unfold playL
    rw [hc s m.f0 m.f1 hI]
    simp only [Option.bind_some]
    by_cases h : c s m.f0 m.f1 = true
    · obtain ⟨h1, h2⟩ := hm s m.f0 m.f1 hI h
      rw [if_pos h, h1]
      simp only [Option.bind_some]
      rw [playL_eq I c' c hc hm l (mv s m.f0 m.f1) (i + 1) h2]
      unfold ends
      have e : stop c (m :: l) s i = stop c l (mv s m.f0 m.f1) (i + 1) := by rw [stop, if_pos h]
      rw [e, List.length_cons, show i + 1 + l.length = i + (l.length + 1) from by omega]
    · rw [if_neg h]
      unfold ends
      have e : stop c (m :: l) s i = (s, i) := by rw [stop, if_neg h]
      rw [e, if_neg (by rw [List.length_cons]; simp)]
theorem mv_all {a : ByteArray} (h : a.data.toList.all sgn = true) (f t : Int) (f0 : 0 ≤ f) (f1 : f < (a.size : Int)) : (mv a f t).data.toList.all sgn = true := by
  have hf : f.toNat < a.data.toList.length := by rw [data_length]; omega
  unfold mv
  rw [List.all_eq_true] at h ⊢
  intro x hx
  have hx2 : x ∈ (a.data.toList.set t.toNat (a.data.toList.getD f.toNat 0)).set f.toNat 46 := by simpa using hx
  rcases List.mem_or_eq_of_mem_set hx2 with hx3 | rfl
  · rcases List.mem_or_eq_of_mem_set hx3 with hx4 | rfl
    · exact h x hx4
    · rw [List.getD_eq_getElem?_getD, List.getElem?_eq_getElem hf]
      exact h _ (List.getElem_mem hf)
  · rfl
end Go.Proofs.YtgiphajcffambaaDoor.XA

namespace Go.Proofs.YtgiphajcffambaaDoor.XA
set_option linter.unusedVariables false
set_option linter.unusedSimpArgs false
open Go Go.RowKit Go.Proofs.YtgiphajcffambaaDoorW.PrintWords Go.Proofs.YtgiphajcffambaaDoorB

def canB (a : ByteArray) (f t : Int) : Bool := decide (canP a f t)
def lineI (a : ByteArray) : Prop := 1 ≤ a.size ∧ a.size ≤ 1000
theorem canB_in {a : ByteArray} {f t : Int} (h : canB a f t = true) : 0 ≤ f ∧ f < (a.size : Int) ∧ 0 ≤ t ∧ t < (a.size : Int) ∧ f ≠ t := by
  obtain ⟨f0, f1, t0, t1, _, hd⟩ := of_decide_eq_true h
  exact ⟨f0, f1, t0, t1, by omega⟩
theorem line_can (s : ByteArray) (f t : Int) (h : lineI s) : impl_can.f s f t = some (canB s f t) := impl_can_eq s h.1 h.2 f t
theorem line_made (s : ByteArray) (f t : Int) (h : lineI s) (hc : canB s f t = true) : impl_made.f s f t = some (mv s f t) ∧ lineI (mv s f t) := by
  obtain ⟨f0, f1, t0, t1, ne⟩ := canB_in hc
  exact ⟨impl_made_eq s h.2 f t f0 f1 t0 t1 ne, by unfold lineI; rw [mv_size]; exact h⟩
theorem liPlay_l0 (l : List S46) (hl : l.length ≤ 1000) : ∀ (d i k : Nat) (s : ByteArray), lineI s → i + d = l.length → d + 1 < k →
    spec_liPlay.l0 k s l l (l.length : Int) (i : Int) = some ((stop canB (l.drop i) s i).1, ((stop canB (l.drop i) s i).2 : Int)) := by
  intro d
  induction d with
  | zero =>
    intro i k s hI hi hk
    obtain ⟨k, rfl⟩ : ∃ m, k = m + 1 := ⟨k - 1, by omega⟩
    simp only [spec_liPlay.l0]
    rw [if_neg (by omega), List.drop_of_length_le (by omega), stop, show l.length = i from by omega]
  | succ d ih =>
    intro i k s hI hi hk
    obtain ⟨k, rfl⟩ : ∃ m, k = m + 1 := ⟨k - 1, by omega⟩
    have z1 : (i : Int) < (l.length : Int) := by omega
    have z2 : (0 : Int) ≤ (i : Int) := by omega
    simp only [spec_liPlay.l0]
    rw [if_pos z1, if_pos z2, if_pos z1, rd_drop l i (by omega), w64_succ (n := l.length) (by omega) (by omega)]
    generalize rd_T46 l (i : Int) = m
    rw [show spec_liCan.f k s m.f0 m.f1 = some (canB s m.f0 m.f1) from liCan_eq s hI.1 hI.2 m.f0 m.f1 k (by omega)]
    simp only [Option.bind_some, stop]
    by_cases h : canB s m.f0 m.f1 = true
    · obtain ⟨f0, f1, t0, t1, ne⟩ := canB_in h
      rw [if_pos h, if_pos h, liMake_eq s hI.2 m.f0 m.f1 f0 f1 t0 t1 ne]
      simp only [Option.bind_some]
      exact ih (i + 1) k _ (line_made s _ _ hI h).2 (by omega) (by omega)
    · rw [if_neg h, if_neg h]
theorem liPlay_eq (l : List S46) (hl : l.length ≤ 1000) (s : ByteArray) (hI : lineI s) (k : Nat) (hk : l.length + 1 < k) : spec_liPlay.f k s l = some ((stop canB l s 0).1, ((stop canB l s 0).2 : Int)) := by
  have h := liPlay_l0 l hl l.length 0 k s hI (by omega) hk
  rw [List.drop_zero] at h
  exact h
end Go.Proofs.YtgiphajcffambaaDoor.XA

namespace Go.Proofs.YtgiphajcffambaaDoor.XA
set_option linter.unusedVariables false
set_option linter.unusedSimpArgs false
open Go Go.RowKit Go.Proofs.YtgiphajcffambaaDoorW.PrintWords Go.Proofs.YtgiphajcffambaaDoorB

theorem liAsked_eq (a : ByteArray) (hs : a.size ≤ 140737488351232) (l : List S46) (k : Nat) (hk : 20 ≤ k) : spec_liAsked.f k a l = some (isLine 12 a && decide (l.length ≤ 100)) := by
  unfold spec_liAsked.f
  rw [liGood_eq a hs k hk]
  simp only [Option.bind_some]
  cases isLine 12 a with
  | false => rw [if_neg (by decide), Bool.false_and]
  | true =>
    rw [if_pos rfl, Bool.true_and]
    congr 1
    exact decide_eq_decide.2 (by omega)
end Go.Proofs.YtgiphajcffambaaDoor.XA

namespace Go.Proofs.YtgiphajcffambaaDoor.XA
set_option linter.unusedVariables false
set_option linter.unusedSimpArgs false
open Go Go.RowKit Go.Proofs.YtgiphajcffambaaDoorW.PrintWords Go.Proofs.YtgiphajcffambaaDoorB

theorem liCount_l0 (a : ByteArray) (hs : a.size ≤ 140737488351232) (c : UInt8) : ∀ (d i k n : Nat), i + d = a.size → d < k → n ≤ i → spec_liCount.l0 k a (c.toNat : Int) (n : Int) (i : Int) = some ((n + (a.data.toList.drop i).count c : Nat) : Int) := by
  intro d
  induction d with
  | zero =>
    intro i k n hi hk hn
    obtain ⟨k, rfl⟩ : ∃ m, k = m + 1 := ⟨k - 1, by omega⟩
    simp only [spec_liCount.l0]
    rw [if_neg (by omega), List.drop_of_length_le (by rw [data_length]; omega)]
    simp
  | succ d ih =>
    intro i k n hi hk hn
    obtain ⟨k, rfl⟩ : ∃ m, k = m + 1 := ⟨k - 1, by omega⟩
    obtain ⟨x, hd, hb⟩ := bt_eq a i (by omega)
    simp only [spec_liCount.l0]
    rw [if_pos (by omega), if_pos (by omega), hb, w64_succ (i := i) (n := a.size) (by omega) hs, w64_succ (i := n) (n := a.size) (by omega) hs, ih (i + 1) k (n + 1) (by omega) (by omega) (by omega), ih (i + 1) k n (by omega) (by omega) (by omega), hd, List.count_cons]
    simp only [byte_inj]
    by_cases h : x = c
    · subst h
      rw [if_pos rfl]
      simp
      omega
    · rw [if_neg h]
      simp [h]
theorem liCount_eq (a : ByteArray) (hs : a.size ≤ 140737488351232) (c : UInt8) (k : Nat) (hk : a.size < k) : spec_liCount.f k a (c.toNat : Int) = some ((a.data.toList.count c : Nat) : Int) := by
  have h := liCount_l0 a hs c a.size 0 k 0 (by omega) hk (by omega)
  rw [List.drop_zero, Nat.zero_add] at h
  exact h
theorem impl_count_eq (a : ByteArray) : impl_count.f a = some (((a.data.toList.count 84 : Nat) : Int), ((a.data.toList.count 46 : Nat) : Int), ((a.data.toList.count 70 : Nat) : Int)) := rfl
theorem counts_size (l : List UInt8) (h : l.all sgn = true) : l.count 84 + l.count 46 + l.count 70 = l.length := by
  induction l with
  | nil => rfl
  | cons c l ih =>
    simp only [List.all_cons, Bool.and_eq_true] at h
    have ih := ih h.2
    have hc := h.1
    unfold sgn at hc
    simp only [Bool.or_eq_true, beq_iff_eq] at hc
    rw [List.count_cons, List.count_cons, List.count_cons, List.length_cons]
    rcases hc with (rfl | rfl) | rfl <;> simp <;> omega
end Go.Proofs.YtgiphajcffambaaDoor.XA

namespace Go.Proofs.YtgiphajcffambaaDoor.XA
set_option linter.unusedVariables false
set_option linter.unusedSimpArgs false
open Go Go.RowKit Go.Proofs.YtgiphajcffambaaDoorW.PrintWords Go.Proofs.YtgiphajcffambaaDoorB

theorem data_append (x y : ByteArray) : (x ++ y).data.toList = x.data.toList ++ y.data.toList := by simp
theorem size_append (x y : ByteArray) : (x ++ y).size = x.size + y.size := by simp
/-- so many of a sign -/
def reps (c : UInt8) (n : Nat) : ByteArray := ⟨(List.replicate n c).toArray⟩
theorem reps_size (c : UInt8) (n : Nat) : (reps c n).size = n := by
  unfold reps
  rw [Lib.size_eq]
  simp
theorem reps_list (c : UInt8) (n : Nat) : (reps c n).data.toList = List.replicate n c := by simp [reps]
theorem ba_ext {x y : ByteArray} (h : x.data.toList = y.data.toList) : x = y := by rw [← Lib.mk_data x, ← Lib.mk_data y, h]
theorem reps_succ (c : UInt8) (n : Nat) : reps c n ++ (⟨#[c]⟩ : ByteArray) = reps c (n + 1) := by
  apply ba_ext
  rw [data_append, reps_list, reps_list]
  simp [List.replicate_succ']
theorem liTimes_l0 (c : UInt8) : ∀ (d m k : Nat), m + d ≤ 1000000 → d < k → spec_liTimes.l0 k (⟨#[c]⟩ : ByteArray) (d : Int) (reps c m) = some (reps c (m + d)) := by
  intro d
  induction d with
  | zero =>
    intro m k _ hk
    obtain ⟨k, rfl⟩ : ∃ m, k = m + 1 := ⟨k - 1, by omega⟩
    simp only [spec_liTimes.l0]
    rw [if_neg (by omega)]
    rfl
  | succ d ih =>
    intro m k hm hk
    obtain ⟨k, rfl⟩ : ∃ m, k = m + 1 := ⟨k - 1, by omega⟩
    simp only [spec_liTimes.l0]
    have h1 : (⟨#[c]⟩ : ByteArray).size = 1 := rfl
    rw [if_pos (by omega), if_pos (by rw [reps_size, h1]; omega), reps_succ, w64 (x := ((d + 1 : Nat) : Int) - 1) (by omega) (by omega), show ((d + 1 : Nat) : Int) - 1 = (d : Int) from by omega, ih (m + 1) k (by omega) (by omega)]
    congr 2
    omega
theorem liTimes_eq (c : UInt8) (n k : Nat) (hn : n ≤ 1000000) (hk : n < k) : spec_liTimes.f k (⟨#[c]⟩ : ByteArray) (n : Int) = some (reps c n) := by
  have h := liTimes_l0 c n 0 k (by omega) hk
  rw [Nat.zero_add] at h
  exact h
/-- three parts, one behind the other -/
def three (c : UInt8) (l m : Nat) (d : UInt8) (n : Nat) : ByteArray := (reps c l ++ reps 46 m) ++ reps d n
theorem three_list (c d : UInt8) (l m n : Nat) : (three c l m d n).data.toList = List.replicate l c ++ (List.replicate m 46 ++ List.replicate n d) := by
  unfold three
  rw [data_append, data_append, reps_list, reps_list, reps_list, List.append_assoc]
theorem three_size (c d : UInt8) (l m n : Nat) : (three c l m d n).size = l + m + n := by
  unfold three
  rw [size_append, size_append, reps_size, reps_size, reps_size]
theorem repeat_one (c : UInt8) : ∀ n, Lib.repeatL [c] n = List.replicate n c
  | 0 => rfl
  | n + 1 => by rw [Lib.repeatL, repeat_one c n]; rfl
theorem repeat_eq (c : UInt8) (n : Nat) (hn : n ≤ 1000000) : strings_Repeat.f (⟨#[c]⟩ : ByteArray) (n : Int) = some (reps c n) := by
  unfold strings_Repeat.f
  rw [if_pos ⟨by omega, by omega, by rw [Int.toNat_natCast, show (⟨#[c]⟩ : ByteArray).size = 1 from rfl]; omega⟩, Int.toNat_natCast, show (⟨#[c]⟩ : ByteArray).data.toList = [c] from rfl, repeat_one]
  rfl
end Go.Proofs.YtgiphajcffambaaDoor.XA

namespace Go.Proofs.YtgiphajcffambaaDoor.XA
set_option linter.unusedVariables false
set_option linter.unusedSimpArgs false
open Go Go.RowKit Go.Proofs.YtgiphajcffambaaDoorW.PrintWords Go.Proofs.YtgiphajcffambaaDoorB

theorem liLast_eq (a : ByteArray) (hs : a.size ≤ 100000) (k : Nat) (hk : a.size < k) : spec_liLast.f k a = some (three 70 (a.data.toList.count 70) (a.data.toList.count 46) 84 (a.data.toList.count 84)) := by
  have c1 : ∀ c : UInt8, a.data.toList.count c ≤ a.size := fun c => by rw [← data_length]; exact List.count_le_length
  unfold spec_liLast.f three
  rw [show spec_liCount.f k a 70 = _ from liCount_eq a (by omega) 70 k hk, show spec_liCount.f k a 46 = _ from liCount_eq a (by omega) 46 k hk, show spec_liCount.f k a 84 = _ from liCount_eq a (by omega) 84 k hk]
  have b1 := c1 70
  have b2 := c1 46
  have b3 := c1 84
  simp only [Option.bind_some]
  rw [liTimes_eq 70 _ k (by omega) (by omega), liTimes_eq 46 _ k (by omega) (by omega), liTimes_eq 84 _ k (by omega) (by omega)]
  simp only [Option.bind_some]
  rw [if_pos (by rw [reps_size, reps_size]; omega), if_pos (by rw [size_append, reps_size, reps_size, reps_size]; omega)]
theorem impl_last_eq (a : ByteArray) (hs : a.size ≤ 100000) : impl_last.f a = some (three 70 (a.data.toList.count 70) (a.data.toList.count 46) 84 (a.data.toList.count 84)) := by
  have c1 : ∀ c : UInt8, a.data.toList.count c ≤ a.size := fun c => by rw [← data_length]; exact List.count_le_length
  have b1 := c1 70
  have b2 := c1 46
  have b3 := c1 84
  unfold impl_last.f impl_ordered.f three
  rw [impl_count_eq]
  simp only [Option.bind_some]
  rw [show Utf8.encode 84 = (⟨#[84]⟩ : ByteArray) from by decide, show Utf8.encode 70 = (⟨#[70]⟩ : ByteArray) from by decide, repeat_eq 84 _ (by omega), repeat_eq 46 _ (by omega), repeat_eq 70 _ (by omega)]
  simp only [Option.bind_some]
  rw [if_pos (by rw [reps_size, reps_size]; omega), if_pos (by rw [size_append, reps_size, reps_size, reps_size]; omega)]
  rfl
end Go.Proofs.YtgiphajcffambaaDoor.XA

namespace Go.Proofs.YtgiphajcffambaaDoor.XA
set_option linter.unusedVariables false
set_option linter.unusedSimpArgs false
open Go Go.RowKit Go.Proofs.YtgiphajcffambaaDoorW.PrintWords Go.Proofs.YtgiphajcffambaaDoorB

/-- the sum of all places with a sign -/
def sumAt (c : UInt8) : List UInt8 → Nat → Nat
  | [], _ => 0
  | x :: l, i => (if x = c then i else 0) + sumAt c l (i + 1)
theorem sumAt_le (c : UInt8) : ∀ (l : List UInt8) (i : Nat), sumAt c l i ≤ l.length * (i + l.length)
  | [], _ => by simp [sumAt]
  | x :: l, i => by
    have h := sumAt_le c l (i + 1)
    simp only [sumAt, List.length_cons]
    have h2 : (l.length + 1) * (i + (l.length + 1)) = l.length * (i + 1 + l.length) + (i + (l.length + 1)) := by rw [Nat.add_mul, Nat.one_mul, show i + (l.length + 1) = i + 1 + l.length from by omega]
    split <;> omega
/-- what the program's loop adds up -/
def wayAt : List UInt8 → Int → Int → Nat → Int
  | [], _, _, _ => 0
  | x :: l, t, f, i => if x = 84 then (t - i) + wayAt l (t + 1) f (i + 1) else if x = 70 then ((i : Int) - f) + wayAt l t (f + 1) (i + 1) else wayAt l t f (i + 1)
/-- t, t + 1, .., n of them, together -/
def tri (t : Int) : Nat → Int
  | 0 => 0
  | n + 1 => t + tri (t + 1) n
theorem wayAt_eq : ∀ (l : List UInt8) (t f : Int) (i : Nat), wayAt l t f i = tri t (l.count 84) - sumAt 84 l i + sumAt 70 l i - tri f (l.count 70)
  | [], t, f, i => by simp [wayAt, tri, sumAt]
  | x :: l, t, f, i => by
    simp only [wayAt, sumAt, List.count_cons]
    by_cases h1 : x = 84
    · subst h1
      simp [wayAt_eq l (t + 1) f (i + 1), tri]
      omega
    · by_cases h2 : x = 70
      · subst h2
        simp [wayAt_eq l t (f + 1) (i + 1), tri]
        omega
      · simp [h1, h2, wayAt_eq l t f (i + 1)]
theorem sumAt_append (c : UInt8) : ∀ (l m : List UInt8) (i : Nat), sumAt c (l ++ m) i = sumAt c l i + sumAt c m (i + l.length)
  | [], m, i => by simp [sumAt]
  | x :: l, m, i => by
    simp only [List.cons_append, sumAt, sumAt_append c l m (i + 1), List.length_cons]
    rw [show i + 1 + l.length = i + (l.length + 1) from by omega]
    omega
theorem sumAt_other {c d : UInt8} (h : d ≠ c) : ∀ (n i : Nat), sumAt c (List.replicate n d) i = 0
  | 0, _ => rfl
  | n + 1, i => by simp [List.replicate_succ, sumAt, h, sumAt_other h n (i + 1)]
theorem sumAt_same (c : UInt8) : ∀ (n i : Nat), ((sumAt c (List.replicate n c) i : Nat) : Int) = tri (i : Int) n
  | 0, _ => rfl
  | n + 1, i => by
    simp only [List.replicate_succ, sumAt, tri, if_true]
    have h := sumAt_same c n (i + 1)
    rw [show ((i : Int) + 1) = ((i + 1 : Nat) : Int) from rfl, ← h]
    omega
theorem sum_last_84 (f g t : Nat) : ((sumAt 84 (three 70 f g 84 t).data.toList 0 : Nat) : Int) = tri ((f + g : Nat) : Int) t := by
  rw [three_list, sumAt_append, sumAt_append, sumAt_other (by decide), sumAt_other (by decide)]
  simp only [Nat.zero_add, List.length_replicate]
  exact sumAt_same 84 t _
theorem sum_last_70 (f g t : Nat) : ((sumAt 70 (three 70 f g 84 t).data.toList 0 : Nat) : Int) = tri 0 f := by
  rw [three_list, sumAt_append, sumAt_append, sumAt_other (c := 70) (d := 46) (by decide), sumAt_other (c := 70) (d := 84) (by decide)]
  simp only [Nat.add_zero]
  exact sumAt_same 70 f 0
/-- how far all have to go -/
def wayOf (l : List UInt8) : Int := wayAt l ((l.length : Int) - (l.count 84 : Nat)) 0 0
theorem wayOf_eq (l : List UInt8) (h : l.all sgn = true) : wayOf l = tri ((l.count 70 + l.count 46 : Nat) : Int) (l.count 84) - sumAt 84 l 0 + sumAt 70 l 0 - tri 0 (l.count 70) := by
  unfold wayOf
  rw [wayAt_eq, show ((l.length : Int) - (l.count 84 : Nat)) = ((l.count 70 + l.count 46 : Nat) : Int) from by have := counts_size l h; omega]
theorem sumAt_small (c : UInt8) (l : List UInt8) (h : l.length ≤ 12) : sumAt c l 0 ≤ 144 := by
  have h1 := sumAt_le c l 0
  have h2 : l.length * (0 + l.length) ≤ 12 * 12 := Nat.mul_le_mul h (by omega)
  omega
theorem way_l0 (a : ByteArray) (hs : a.size ≤ 12) : ∀ (d i k : Nat) (s t f : Int), i + d = a.size → d < k → -(1000 * i : Int) ≤ s → s ≤ 1000 * i → 0 ≤ t → t ≤ 12 + i → 0 ≤ f → f ≤ i → impl_way.l0 k a s t f (a.size : Int) (i : Int) = some (s + wayAt (a.data.toList.drop i) t f i) := by
  intro d
  induction d with
  | zero =>
    intro i k s t f hi hk _ _ _ _ _ _
    obtain ⟨k, rfl⟩ : ∃ m, k = m + 1 := ⟨k - 1, by omega⟩
    simp only [impl_way.l0]
    rw [if_neg (by omega), List.drop_of_length_le (by rw [data_length]; omega)]
    simp [wayAt]
  | succ d ih =>
    intro i k s t f hi hk s0 s1 t0 t1 f0 f1
    obtain ⟨k, rfl⟩ : ∃ m, k = m + 1 := ⟨k - 1, by omega⟩
    obtain ⟨x, hd, hb⟩ := bt_eq a i (by omega)
    simp only [impl_way.l0]
    rw [if_pos (by omega), if_pos (by omega), if_pos (by omega), hb, w64_succ (n := a.size) (by omega) (by omega), w64 (x := t - i) (by omega) (by omega), w64 (x := (i : Int) - f) (by omega) (by omega), w64 (x := s + (t - i)) (by omega) (by omega), w64 (x := s + ((i : Int) - f)) (by omega) (by omega), w64 (x := t + 1) (by omega) (by omega), w64 (x := f + 1) (by omega) (by omega)]
    rw [ih (i + 1) k (s + (t - i)) (t + 1) f (by omega) (by omega) (by omega) (by omega) (by omega) (by omega) (by omega) (by omega), ih (i + 1) k (s + ((i : Int) - f)) t (f + 1) (by omega) (by omega) (by omega) (by omega) (by omega) (by omega) (by omega) (by omega), ih (i + 1) k s t f (by omega) (by omega) (by omega) (by omega) (by omega) (by omega) (by omega) (by omega), hd, wayAt]
    simp only [is84, is70]
    by_cases h1 : x = 84
    · rw [if_pos h1, if_pos h1, Int.add_assoc]
    · rw [if_neg h1, if_neg h1]
      by_cases h2 : x = 70
      · rw [if_pos h2, if_pos h2, Int.add_assoc]
      · rw [if_neg h2, if_neg h2]
theorem impl_way_eq (a : ByteArray) (h : isLine 12 a = true) (k : Nat) (hk : 20 ≤ k) : impl_way.f k a = some (wayOf a.data.toList) := by
  obtain ⟨h1, h12, hl⟩ := isLine_size h
  unfold impl_way.f
  rw [impl_count_eq]
  simp only [Option.bind_some]
  have hc : a.data.toList.count 84 ≤ a.size := by rw [← data_length]; exact List.count_le_length
  rw [w64 (by omega) (by omega)]
  have hw := way_l0 a h12 a.size 0 k 0 ((a.size : Int) - (a.data.toList.count 84 : Nat)) 0 (by omega) (by omega) (by omega) (by omega) (by omega) (by omega) (by omega) (by omega)
  rw [List.drop_zero, Int.zero_add] at hw
  rw [show impl_way.l0 k a 0 ((a.size : Int) - (a.data.toList.count 84 : Nat)) 0 (a.size : Int) 0 = _ from hw]
  unfold wayOf
  rw [data_length]
end Go.Proofs.YtgiphajcffambaaDoor.XA

namespace Go.Proofs.YtgiphajcffambaaDoor.XA
set_option linter.unusedVariables false
set_option linter.unusedSimpArgs false
open Go Go.RowKit Go.Proofs.YtgiphajcffambaaDoorW.PrintWords Go.Proofs.YtgiphajcffambaaDoorB
theorem in_eq3 (a b c : Int) : spec_l1In.f a b c = some (decide (b ≤ a ∧ a ≤ c)) := by
  unfold spec_l1In.f
  by_cases h : b ≤ a <;> simp [h]
theorem within_eq3 (a b c : Int) : impl_within.f a b c = some (decide (b ≤ a ∧ a ≤ c)) := by
  unfold impl_within.f
  by_cases h : b ≤ a <;> simp [h]
theorem all_eq3 (x y z lo hi : Int) : spec_l1All.f 20 [x, y, z] lo hi = some (decide (lo ≤ x ∧ x ≤ hi) && (decide (lo ≤ y ∧ y ≤ hi) && decide (lo ≤ z ∧ z ≤ hi))) := by
  unfold spec_l1All.f
  simp only [spec_l1All.l0, in_eq3, Option.bind_some, show (([x, y, z] : List Int).length : Int) = 3 from rfl, show wrap64 (0 + 1) = 1 from by decide +kernel, show wrap64 (1 + 1) = 2 from by decide +kernel, show wrap64 (2 + 1) = 3 from by decide +kernel, show rd ([x, y, z] : List Int) 0 = x from rfl, show rd ([x, y, z] : List Int) 1 = y from rfl, show rd ([x, y, z] : List Int) 2 = z from rfl]
  generalize decide (lo ≤ x ∧ x ≤ hi) = p
  generalize decide (lo ≤ y ∧ y ≤ hi) = q
  generalize decide (lo ≤ z ∧ z ≤ hi) = r
  cases p <;> cases q <;> cases r <;> rfl
def threeB (m x y z : Int) : Bool := decide (0 ≤ x ∧ x ≤ m) && (decide (0 ≤ y ∧ y ≤ m) && (decide (0 ≤ z ∧ z ≤ m) && decide (1 ≤ wrap64 (wrap64 (x + y) + z) ∧ wrap64 (wrap64 (x + y) + z) ≤ m)))
theorem threeB_is {m x y z : Int} (hm : m ≤ 1000) (h : threeB m x y z = true) : ∃ t g f : Nat, x = (t : Int) ∧ y = (g : Int) ∧ z = (f : Int) ∧ 1 ≤ t + g + f ∧ (t + g + f : Int) ≤ m := by
  unfold threeB at h
  simp only [Bool.and_eq_true, decide_eq_true_eq] at h
  obtain ⟨h1, h2, h3, h4⟩ := h
  have hw : wrap64 (wrap64 (x + y) + z) = x + y + z := by unfold wrap64; omega
  rw [hw] at h4
  exact ⟨x.toNat, y.toNat, z.toNat, by omega, by omega, by omega, by omega, by omega⟩
theorem impl_three3 (x y z m : Int) : impl_areCounts.f x y z m = some (threeB m x y z) := by
  unfold impl_areCounts.f threeB
  simp only [Option.bind_some, within_eq3]
  generalize decide (0 ≤ x ∧ x ≤ m) = p
  generalize decide (0 ≤ y ∧ y ≤ m) = q
  generalize decide (0 ≤ z ∧ z ≤ m) = r
  cases p <;> cases q <;> cases r <;> rfl
end Go.Proofs.YtgiphajcffambaaDoor.XA

namespace Go.Proofs.YtgiphajcffambaaDoor.XA
set_option linter.unusedVariables false
set_option linter.unusedSimpArgs false
open Go Go.RowKit Go.Proofs.YtgiphajcffambaaDoorW.PrintWords Go.Proofs.YtgiphajcffambaaDoorB
theorem spec_three3 (x y z : Int) (k : Nat) (hk : 20 ≤ k) : spec_liThree.f k x y z = some (threeB 12 x y z) := by
  refine at_rounds (spec_liThree.mono x y z) hk ?_
  unfold spec_liThree.f threeB
  rw [all_eq3]
  simp only [Option.bind_some, in_eq3]
  generalize decide (0 ≤ x ∧ x ≤ 12) = p
  generalize decide (0 ≤ y ∧ y ≤ 12) = q
  generalize decide (0 ≤ z ∧ z ≤ 12) = r
  cases p <;> cases q <;> cases r <;> rfl
end Go.Proofs.YtgiphajcffambaaDoor.XA

namespace Go.Proofs.YtgiphajcffambaaDoor.XA
set_option linter.unusedVariables false
set_option linter.unusedSimpArgs false
open Go Go.RowKit Go.Proofs.YtgiphajcffambaaDoorW.PrintWords Go.Proofs.YtgiphajcffambaaDoorB Go.Proofs.YtgiphajcffambaaDoor.Ranks
theorem many_table : ∀ a, a < 13 → ∀ b, b < 13 - a → ∀ c, c < 13 - a - b → (spec_liMany.f 40 ((a : Nat) : Int) ((b : Nat) : Int) ((c : Nat) : Int) == some ((M a b c : Nat) : Int)) = true := by decide +kernel
theorem many_eq (t g f : Nat) (h : t + g + f ≤ 12) (k : Nat) (hk : 40 ≤ k) : spec_liMany.f k (t : Int) (g : Int) (f : Int) = some ((M t g f : Nat) : Int) :=
  at_rounds (spec_liMany.mono _ _ _) hk (eq_of_beq (many_table t (by omega) g (by omega) f (by omega)))
theorem many_none (t g f : Int) (h : t < 0 ∨ g < 0 ∨ f < 0) (k : Nat) (hk : 1 ≤ k) : spec_liMany.f k t g f = some 0 := by
  obtain ⟨k, rfl⟩ : ∃ m, k = m + 1 := ⟨k - 1, by omega⟩
  unfold spec_liMany.f
  simp only [spec_liMany.j0]
  by_cases h1 : t < 0
  · rw [if_pos h1]
    simp
  · rw [if_neg h1]
    by_cases h2 : g < 0
    · rw [if_pos h2]
      simp
    · rw [if_neg h2, if_pos (by simp; omega)]
theorem many_GG (t g f : Nat) (h : t + g + f ≤ 12) (k : Nat) (hk : 40 ≤ k) : spec_liMany.f k (t : Int) ((g : Int) - 1) (f : Int) = some ((GG t g f : Nat) : Int) := by
  unfold GG
  by_cases hg : g = 0
  · subst hg
    rw [if_pos rfl]
    exact many_none _ _ _ (by omega) k (by omega)
  · rw [if_neg hg, show (g : Int) - 1 = ((g - 1 : Nat) : Int) from by omega]
    exact many_eq t (g - 1) f (by omega) k hk
theorem many_FF (t g f : Nat) (h : t + g + f ≤ 12) (k : Nat) (hk : 40 ≤ k) : spec_liMany.f k (t : Int) (g : Int) ((f : Int) - 1) = some ((FF t g f : Nat) : Int) := by
  unfold FF
  by_cases hg : f = 0
  · subst hg
    rw [if_pos rfl]
    exact many_none _ _ _ (by omega) k (by omega)
  · rw [if_neg hg, show (f : Int) - 1 = ((f - 1 : Nat) : Int) from by omega]
    exact many_eq t g (f - 1) (by omega) k hk
theorem w_sum3 (t g f : Nat) (h : t + g + f ≤ 1000) : wrap64 (wrap64 ((t : Int) + g) + f) = (t : Int) + g + f := by unfold wrap64; omega
theorem w_sum2 (a b : Nat) (h1 : a < 1000000) (h2 : b < 1000000) : wrap64 ((a : Int) + (b : Int)) = ((a + b : Nat) : Int) := by unfold wrap64; omega
theorem w_pred (a : Nat) (h : a ≤ 1000000) : wrap64 ((a : Int) - 1) = (a : Int) - 1 := by unfold wrap64; omega
theorem w_sub (a b : Nat) (h : b ≤ a) (h2 : a ≤ 10000000) : wrap64 ((a : Int) - (b : Int)) = ((a - b : Nat) : Int) := by unfold wrap64; omega
end Go.Proofs.YtgiphajcffambaaDoor.XA

namespace Go.Proofs.YtgiphajcffambaaDoor.XA
set_option linter.unusedVariables false
set_option linter.unusedSimpArgs false
open Go Go.RowKit Go.Proofs.YtgiphajcffambaaDoorW.PrintWords Go.Proofs.YtgiphajcffambaaDoorB Go.Proofs.YtgiphajcffambaaDoor.Ranks
theorem lor_snoc (l : List UInt8) (c : UInt8) : (⟨l.toArray⟩ : ByteArray) ++ (⟨#[c]⟩ : ByteArray) = ⟨(l ++ [c]).toArray⟩ := by
  rw [← Lib.mk_data ((⟨l.toArray⟩ : ByteArray) ++ (⟨#[c]⟩ : ByteArray))]
  simp
theorem lor_size (l : List UInt8) : (⟨l.toArray⟩ : ByteArray).size = l.length := by simp [ByteArray.size]
theorem lor_l0 : ∀ (n t g f r k : Nat) (pre : List UInt8), n = t + g + f → n ≤ 12 → r < M t g f → pre.length + n ≤ 100 → n + 50 ≤ k →
    spec_LineOfRank.l0 k (t : Int) (g : Int) (f : Int) (r : Int) ⟨pre.toArray⟩ = some (⟨(pre ++ unrank n t g f r).toArray⟩, true) := by
  intro n
  induction n with
  | zero =>
    intro t g f r k pre hn _ _ _ hk
    obtain ⟨k, rfl⟩ : ∃ m, k = m + 1 := ⟨k - 1, by omega⟩
    obtain rfl : t = 0 := by omega
    obtain rfl : g = 0 := by omega
    obtain rfl : f = 0 := by omega
    simp only [spec_LineOfRank.l0]
    rw [if_neg (by decide +kernel), unrank, List.append_nil]
  | succ n ih =>
    intro t g f r k pre hn h12 hr hp hk
    obtain ⟨k, rfl⟩ : ∃ m, k = m + 1 := ⟨k - 1, by omega⟩
    have hrec := M_rec (t := t) (g := g) (f := f) (by omega) (by omega)
    have b1 := GG_le (t := t) (g := g) (f := f) (by omega)
    have b2 := FF_le (t := t) (g := g) (f := f) (by omega)
    have b3 := TT_le (t := t) (g := g) (f := f) (by omega)
    have z0 : (t : Int) + g + f > 0 := by omega
    have hsz : (⟨pre.toArray⟩ : ByteArray).size + 1 ≤ 9223372036854775807 := by rw [lor_size]; omega
    have g1 := many_GG t g f (by omega) k (by omega)
    have g2 := many_FF t g f (by omega) k (by omega)
    simp only [spec_LineOfRank.l0]
    rw [w_sum3 t g f (by omega), if_pos z0, w_pred g (by omega), w_pred f (by omega), w_pred t (by omega), g1, g2]
    simp only [Option.bind_some]
    rw [w_sum2 _ _ b1 b2, if_pos hsz, if_pos hsz, if_pos hsz, lor_snoc, lor_snoc, lor_snoc]
    conv => rhs; unfold unrank
    by_cases h1 : r < GG t g f
    · have hg : g ≠ 0 := by rintro rfl; simp [GG] at h1
      have e : GG t g f = M t (g - 1) f := by unfold GG; rw [if_neg hg]
      rw [if_pos (by omega), if_pos h1, show (g : Int) - 1 = ((g - 1 : Nat) : Int) from by omega, ih t (g - 1) f r k (pre ++ [46]) (by omega) (by omega) (by omega) (by simp; omega) (by omega), List.append_assoc]
      rfl
    · rw [if_neg (show ¬ (r : Int) < ((GG t g f : Nat) : Int) by omega), if_neg h1]
      by_cases h2 : r < GG t g f + FF t g f
      · have hf : f ≠ 0 := by rintro rfl; simp [FF] at h2; omega
        have e : FF t g f = M t g (f - 1) := by unfold FF; rw [if_neg hf]
        rw [if_pos (show (r : Int) < ((GG t g f + FF t g f : Nat) : Int) by omega), if_pos h2, w_sub r (GG t g f) (by omega) (by omega), show (f : Int) - 1 = ((f - 1 : Nat) : Int) from by omega, ih t g (f - 1) (r - GG t g f) k (pre ++ [70]) (by omega) (by omega) (by omega) (by simp; omega) (by omega), List.append_assoc]
        rfl
      · have ht : t ≠ 0 := by rintro rfl; simp [TT] at hrec; omega
        have e : TT t g f = M (t - 1) g f := by unfold TT; rw [if_neg ht]
        rw [if_neg (show ¬ (r : Int) < ((GG t g f + FF t g f : Nat) : Int) by omega), if_neg h2, w_sub r (GG t g f + FF t g f) (by omega) (by omega), Nat.sub_sub, show (t : Int) - 1 = ((t - 1 : Nat) : Int) from by omega, ih (t - 1) g f (r - (GG t g f + FF t g f)) k (pre ++ [84]) (by omega) (by omega) (by omega) (by simp; omega) (by omega), List.append_assoc]
        rfl
/-- what both answer -/
def lorA (x y z r : Int) : ByteArray × Bool :=
  if threeB 12 x y z = true ∧ 0 ≤ r ∧ r < ((M x.toNat y.toNat z.toNat : Nat) : Int) then (⟨(unrank (x.toNat + y.toNat + z.toNat) x.toNat y.toNat z.toNat r.toNat).toArray⟩, true) else (⟨#[]⟩, false)
theorem spec_lor (x y z r : Int) (k : Nat) (hk : 70 ≤ k) : spec_LineOfRank.f k x y z r = some (lorA x y z r) := by
  obtain ⟨k, rfl⟩ : ∃ m, k = m + 1 := ⟨k - 1, by omega⟩
  unfold spec_LineOfRank.f lorA
  rw [spec_three3 x y z (k + 1) (by omega)]
  simp only [Option.bind_some]
  cases h : threeB 12 x y z with
  | false =>
    rw [if_neg (by decide), if_neg (by simp)]
    simp only [spec_LineOfRank.j0]
    rfl
  | true =>
    obtain ⟨t, g, f, rfl, rfl, rfl, h1, h2⟩ := threeB_is (by omega) h
    have hb := M_small (t := t) (g := g) (f := f) (by omega)
    have hp := M_pos (t := t) (g := g) (f := f) (by omega)
    rw [if_pos rfl, many_eq t g f (by omega) (k + 1) (by omega)]
    simp only [Option.bind_some, Int.toNat_natCast, spec_LineOfRank.j0]
    rw [w_pred (M t g f) (by omega), in_eq3]
    simp only [Option.bind_some]
    by_cases hr : 0 ≤ r ∧ r ≤ ((M t g f : Nat) : Int) - 1
    · obtain ⟨r, rfl⟩ := Int.eq_ofNat_of_zero_le hr.1
      rw [decide_eq_true hr, if_neg (by decide), if_pos ⟨trivial, hr.1, by omega⟩, Int.toNat_natCast]
      have hl := lor_l0 (t + g + f) t g f r k [] rfl (by omega) (by omega) (by simp; omega) (by omega)
      rw [List.nil_append] at hl
      exact hl
    · rw [decide_eq_false hr, if_pos (by decide), if_neg (fun h => hr ⟨h.2.1, by omega⟩)]
end Go.Proofs.YtgiphajcffambaaDoor.XA

namespace Go.Proofs.YtgiphajcffambaaDoor.XA
set_option linter.unusedVariables false
set_option linter.unusedSimpArgs false
open Go Go.RowKit Go.Proofs.YtgiphajcffambaaDoorW.PrintWords Go.Proofs.YtgiphajcffambaaDoorB Go.Proofs.YtgiphajcffambaaDoor.Ranks
theorem impl_lor (x y z r : Int) : impl_LineOfRank.f x y z r = some (lorA x y z r) := by
  unfold impl_LineOfRank.f lorA
  rw [impl_three3]
  simp only [Option.bind_some]
  cases h : threeB 12 x y z with
  | false => rw [if_neg (by decide), if_neg (by simp)]
  | true =>
    obtain ⟨t, g, f, rfl, rfl, rfl, h1, h2⟩ := threeB_is (by omega) h
    rw [if_pos rfl, lines_eq t g f (by omega)]
    simp only [Option.bind_some, Int.toNat_natCast]
    rw [within_eq3]
    simp only [Option.bind_some]
    by_cases hr : 0 ≤ r ∧ r ≤ ((M t g f : Nat) : Int) - 1
    · rw [decide_eq_true hr, if_pos rfl, if_pos ⟨trivial, hr.1, by omega⟩]
    · rw [decide_eq_false hr, if_neg (by decide), if_neg (fun h => hr ⟨h.2.1, by omega⟩)]
end Go.Proofs.YtgiphajcffambaaDoor.XA

namespace Go.Proofs.YtgiphajcffambaaDoor.XA
set_option linter.unusedVariables false
set_option linter.unusedSimpArgs false
open Go Go.RowKit Go.Proofs.YtgiphajcffambaaDoorW.PrintWords Go.Proofs.YtgiphajcffambaaDoorB Go.Proofs.YtgiphajcffambaaDoor.Ranks
theorem rkl_cons (c : UInt8) (l : List UInt8) : rank (c :: l) = (if c = 46 then 0 else if c = 70 then GG ((c :: l).count 84) ((c :: l).count 46) ((c :: l).count 70) else GG ((c :: l).count 84) ((c :: l).count 46) ((c :: l).count 70) + FF ((c :: l).count 84) ((c :: l).count 46) ((c :: l).count 70)) + rank l := rfl
theorem rkl_l0 (a : ByteArray) (h12 : a.size ≤ 12) (hall : a.data.toList.all sgn = true) : ∀ (d i k acc : Nat), i + d = a.size → d + 50 < k → acc ≤ 10000000 * i →
    spec_RankOfLine.l0 k a (acc : Int) (((a.data.toList.drop i).count 84 : Nat) : Int) (((a.data.toList.drop i).count 46 : Nat) : Int) (((a.data.toList.drop i).count 70 : Nat) : Int) (i : Int) = some (((acc + rank (a.data.toList.drop i) : Nat) : Int), true) := by
  intro d
  induction d with
  | zero =>
    intro i k acc hi hk _
    obtain ⟨k, rfl⟩ : ∃ m, k = m + 1 := ⟨k - 1, by omega⟩
    simp only [spec_RankOfLine.l0]
    rw [if_neg (by omega), List.drop_of_length_le (by rw [data_length]; omega)]
    rfl
  | succ d ih =>
    intro i k acc hi hk hacc
    obtain ⟨k, rfl⟩ : ∃ m, k = m + 1 := ⟨k - 1, by omega⟩
    obtain ⟨c, hd, hb⟩ := bt_eq a i (by omega)
    have hal2 : (a.data.toList.drop i).all sgn = true := List.all_eq_true.2 fun x hx => List.all_eq_true.1 hall x (List.mem_of_mem_drop hx)
    have hlen := counts_len hal2
    rw [List.length_drop, data_length] at hlen
    have hsg : sgn c = true := by
      rw [hd, List.all_cons, Bool.and_eq_true] at hal2
      exact hal2.1
    have hrk := rkl_cons c (a.data.toList.drop (i + 1))
    have hih := fun acc2 h => ih (i + 1) k acc2 (by omega) (by omega) h
    have c1 : (c :: a.data.toList.drop (i + 1)).count 84 = (a.data.toList.drop (i + 1)).count 84 + if c = 84 then 1 else 0 := by rw [List.count_cons]; simp
    have c2 : (c :: a.data.toList.drop (i + 1)).count 46 = (a.data.toList.drop (i + 1)).count 46 + if c = 46 then 1 else 0 := by rw [List.count_cons]; simp
    have c3 : (c :: a.data.toList.drop (i + 1)).count 70 = (a.data.toList.drop (i + 1)).count 70 + if c = 70 then 1 else 0 := by rw [List.count_cons]; simp
    rw [← hd] at hrk c1 c2 c3
    generalize (a.data.toList.drop i).count 84 = t at *
    generalize (a.data.toList.drop i).count 46 = g at *
    generalize (a.data.toList.drop i).count 70 = f at *
    generalize (a.data.toList.drop (i + 1)).count 84 = t' at *
    generalize (a.data.toList.drop (i + 1)).count 46 = g' at *
    generalize (a.data.toList.drop (i + 1)).count 70 = f' at *
    generalize rank (a.data.toList.drop (i + 1)) = rr at *
    rw [hrk]
    have b1 := GG_le (t := t) (g := g) (f := f) (by omega)
    have b2 := FF_le (t := t) (g := g) (f := f) (by omega)
    have z0 : (i : Int) < (a.size : Int) := by omega
    have g1 := many_GG t g f (by omega) k (by omega)
    have g2 := many_FF t g f (by omega) k (by omega)
    clear hd hal2 hall hrk ih
    simp only [spec_RankOfLine.l0]
    rw [if_pos z0, if_pos (by omega), hb, w64_succ (n := a.size) (by omega) (by omega), w_pred t (by omega), w_pred g (by omega), w_pred f (by omega), g1, g2]
    simp only [Option.bind_some, is46, is70]
    generalize GG t g f = x at *
    generalize FF t g f = y at *
    clear g1 g2 hb
    rcases sgn_cases hsg with rfl | rfl | rfl
    · rw [if_pos rfl, if_pos rfl]
      simp at c1 c2 c3
      subst c1 c2 c3
      rw [show (((g' + 1 : Nat) : Int) - 1) = (g' : Int) from by omega, hih acc (by omega), Nat.zero_add]
    · simp only [show ((70 : UInt8) = 46) = False from by simp, if_false, if_true]
      simp at c1 c2 c3
      subst c1 c2 c3
      rw [show wrap64 ((acc : Int) + (x : Int)) = ((acc + x : Nat) : Int) from by rw [w64 (by omega) (by omega)]; omega, show (((f' + 1 : Nat) : Int) - 1) = (f' : Int) from by omega, hih (acc + x) (by omega), Nat.add_assoc]
    · simp only [show ((84 : UInt8) = 46) = False from by simp, show ((84 : UInt8) = 70) = False from by simp, if_false]
      rw [w_sum2 x y b1 b2]
      simp at c1 c2 c3
      subst c1 c2 c3
      rw [show wrap64 ((acc : Int) + ((x + y : Nat) : Int)) = ((acc + (x + y) : Nat) : Int) from by rw [w64 (by omega) (by omega)]; omega, show (((t' + 1 : Nat) : Int) - 1) = (t' : Int) from by omega, hih (acc + (x + y)) (by omega), Nat.add_assoc]
/-- what both answer -/
def rklA (a : ByteArray) : Int × Bool := if isLine 12 a = true then (((rank a.data.toList : Nat) : Int), true) else (0, false)
theorem spec_rkl (a : ByteArray) (hs : a.size ≤ 140737488351232) (k : Nat) (hk : 80 ≤ k) : spec_RankOfLine.f k a = some (rklA a) := by
  unfold spec_RankOfLine.f rklA
  rw [liGood_eq a hs k (by omega)]
  simp only [Option.bind_some]
  cases hL : isLine 12 a with
  | false => rw [if_neg (by decide), if_neg (by decide)]
  | true =>
    obtain ⟨h1, h12, hall⟩ := isLine_size hL
    rw [if_pos rfl, if_pos rfl, show spec_liCount.f k a 84 = _ from liCount_eq a hs 84 k (by omega), show spec_liCount.f k a 46 = _ from liCount_eq a hs 46 k (by omega), show spec_liCount.f k a 70 = _ from liCount_eq a hs 70 k (by omega)]
    simp only [Option.bind_some]
    have h := rkl_l0 a h12 hall a.size 0 k 0 (by omega) (by omega) (by omega)
    rw [List.drop_zero, Nat.zero_add] at h
    exact h
theorem impl_rkl (a : ByteArray) (hs : a.size ≤ 140737488351232) : impl_RankOfLine.f a = some (rklA a) := by
  unfold impl_RankOfLine.f rklA impl_IsLine.f
  rw [show impl_isLineOf.f a 12 = some (isLine 12 a) from isLineOf_eq a 12 hs]
  simp only [Option.bind_some]
  cases hL : isLine 12 a with
  | false => rw [if_neg (by decide), if_neg (by decide)]
  | true =>
    obtain ⟨h1, h12, hall⟩ := isLine_size hL
    rw [if_pos rfl, if_pos rfl, if_pos ⟨h12, hall⟩]
end Go.Proofs.YtgiphajcffambaaDoor.XA

namespace Go.Proofs.YtgiphajcffambaaDoor.XA
set_option linter.unusedVariables false
set_option linter.unusedSimpArgs false
open Go Go.RowKit Go.Proofs.YtgiphajcffambaaDoorW.PrintWords Go.Proofs.YtgiphajcffambaaDoorB Go.Proofs.YtgiphajcffambaaDoor.Ranks

theorem three_line {c d : UInt8} (hc : sgn c = true) (hd : sgn d = true) (l m n : Nat) (h1 : 1 ≤ l + m + n) (h2 : l + m + n ≤ 12) : isLine 12 (three c l m d n) = true := by
  unfold isLine
  rw [three_size, decide_eq_true h1, decide_eq_true h2, three_list, Bool.true_and, Bool.true_and, List.all_eq_true]
  intro x hx
  rcases List.mem_append.1 hx with h | h
  · rw [(List.mem_replicate.1 h).2]; exact hc
  rcases List.mem_append.1 h with h | h
  · rw [(List.mem_replicate.1 h).2]; rfl
  · rw [(List.mem_replicate.1 h).2]; exact hd
theorem way_table : ∀ a, a < 13 → ∀ b, b < 13 - a → ∀ c, c < 13 - a - b → (decide (wayOf (List.replicate c 70 ++ (List.replicate b 46 ++ List.replicate a 84)) = 0) && decide (wayOf (List.replicate a 84 ++ (List.replicate b 46 ++ List.replicate c 70)) = ((a * (b + c) + c * (a + b) : Nat) : Int))) = true := by decide +kernel
theorem way_last (t g f : Nat) (h : t + g + f ≤ 12) : wayOf (three 70 f g 84 t).data.toList = 0 := by
  have h := way_table t (by omega) g (by omega) f (by omega)
  rw [Bool.and_eq_true, decide_eq_true_eq, decide_eq_true_eq] at h
  rw [three_list]
  exact h.1
theorem way_first (t g f : Nat) (h : t + g + f ≤ 12) : wayOf (three 84 t g 70 f).data.toList = ((t * (g + f) + f * (t + g) : Nat) : Int) := by
  have h := way_table t (by omega) g (by omega) f (by omega)
  rw [Bool.and_eq_true, decide_eq_true_eq, decide_eq_true_eq] at h
  rw [three_list]
  exact h.2
theorem three_count (t g f : Nat) : (three 70 f g 84 t).data.toList.count 84 = t ∧ (three 70 f g 84 t).data.toList.count 46 = g ∧ (three 70 f g 84 t).data.toList.count 70 = f := by
  rw [three_list]
  simp [List.count_append, List.count_replicate]
/-- plays -/
theorem mv_line {s : ByteArray} (h : isLine 12 s = true) {f t : Int} (hc : canB s f t = true) : isLine 12 (mv s f t) = true := by
  obtain ⟨h1, h12, hall⟩ := isLine_size h
  obtain ⟨f0, f1, _⟩ := canB_in hc
  unfold isLine
  rw [mv_size, decide_eq_true h1, decide_eq_true h12, mv_all hall f t f0 f1]
  rfl
theorem stop_line : ∀ (l : List S46) (s : ByteArray) (i : Nat), isLine 12 s = true → isLine 12 (stop canB l s i).1 = true
  | [], _, _, h => h
  | m :: l, s, i, h => by
    by_cases hc : canB s m.f0 m.f1 = true
    · rw [stop_yes hc]; exact stop_line l _ _ (mv_line h hc)
    · rw [stop_no hc]; exact h
theorem stop_take (c : ByteArray → Int → Int → Bool) : ∀ (l : List S46) (s : ByteArray) (i n : Nat), (stop c l s i).2 = i + n → stop c (l.take n) s i = stop c l s i
  | [], s, i, n, _ => by rw [List.take_nil]
  | m :: l, s, i, n, h => by
    by_cases hc : c s m.f0 m.f1 = true
    · rw [stop_yes hc] at h ⊢
      have := stop_le c l (mv s m.f0 m.f1) (i + 1)
      obtain ⟨n, rfl⟩ : ∃ q, n = q + 1 := ⟨n - 1, by omega⟩
      rw [List.take_succ_cons, stop_yes hc]
      exact stop_take c l _ _ n (by omega)
    · rw [stop_no hc] at h ⊢
      obtain rfl : n = 0 := by simp at h; omega
      rw [List.take_zero, stop]
theorem stop_fails (c : ByteArray → Int → Int → Bool) (l : List S46) : ∀ (d i : Nat) (s : ByteArray), i + d = l.length → (stop c (l.drop i) s i).2 < l.length →
    ¬ c (stop c (l.drop i) s i).1 (rd_T46 l ((stop c (l.drop i) s i).2 : Int)).f0 (rd_T46 l ((stop c (l.drop i) s i).2 : Int)).f1 = true := by
  intro d
  induction d with
  | zero =>
    intro i s hi h
    have := stop_le c (l.drop i) s i
    omega
  | succ d ih =>
    intro i s hi
    rw [rd_drop l i (by omega)]
    by_cases hc : c s (rd_T46 l (i : Int)).f0 (rd_T46 l (i : Int)).f1 = true
    · rw [stop_yes hc]
      exact ih (i + 1) _ (by omega)
    · rw [stop_no hc]
      exact fun _ => hc
/-- what both answer -/
def cntA (a : ByteArray) : Int × Int × Int × Bool := if isLine 12 a = true then (((a.data.toList.count 84 : Nat) : Int), ((a.data.toList.count 46 : Nat) : Int), ((a.data.toList.count 70 : Nat) : Int), true) else (0, 0, 0, false)
def lastA (a : ByteArray) : ByteArray × Bool := if isLine 12 a = true then (three 70 (a.data.toList.count 70) (a.data.toList.count 46) 84 (a.data.toList.count 84), true) else (⟨#[]⟩, false)
def clA (x y z : Int) : Int × Bool := if threeB 12 x y z = true then (((M x.toNat y.toNat z.toNat : Nat) : Int), true) else (0, false)
def firstA (x y z : Int) : ByteArray × Bool := if threeB 12 x y z = true then (three 84 x.toNat y.toNat 70 z.toNat, true) else (⟨#[]⟩, false)
def plA (a : ByteArray) (r : List S46) : ByteArray × Bool := if isLine 12 a = true ∧ r.length ≤ 100 ∧ (stop canB r a 0).2 = r.length then ((stop canB r a 0).1, true) else (⟨#[]⟩, false)
def mfA (a : ByteArray) (r : List S46) : Int × Bool := if isLine 12 a = true ∧ r.length ≤ 100 ∧ (stop canB r a 0).2 ≠ r.length then (((stop canB r a 0).2 : Int), true) else (0, false)
theorem cnt_both (a : ByteArray) (hs : a.size ≤ 140737488351232) (k : Nat) (hk : 100 ≤ k) : spec_CountOf.f k a = some (cntA a) ∧ impl_CountOf.f a = some (cntA a) := by
  unfold spec_CountOf.f impl_CountOf.f impl_IsLine.f cntA
  rw [liGood_eq a hs k (by omega), show impl_isLineOf.f a 12 = some (isLine 12 a) from isLineOf_eq a 12 hs, impl_count_eq]
  simp only [Option.bind_some]
  cases hL : isLine 12 a with
  | false => exact ⟨rfl, rfl⟩
  | true =>
    obtain ⟨h1, h12, _⟩ := isLine_size hL
    rw [show spec_liCount.f k a 84 = _ from liCount_eq a hs 84 k (by omega), show spec_liCount.f k a 46 = _ from liCount_eq a hs 46 k (by omega), show spec_liCount.f k a 70 = _ from liCount_eq a hs 70 k (by omega)]
    exact ⟨rfl, rfl⟩
theorem last_both (a : ByteArray) (hs : a.size ≤ 140737488351232) (k : Nat) (hk : 100 ≤ k) : spec_LastLine.f k a = some (lastA a) ∧ impl_LastLine.f a = some (lastA a) := by
  unfold spec_LastLine.f impl_LastLine.f impl_IsLine.f lastA
  rw [liGood_eq a hs k (by omega), show impl_isLineOf.f a 12 = some (isLine 12 a) from isLineOf_eq a 12 hs]
  simp only [Option.bind_some]
  cases hL : isLine 12 a with
  | false => exact ⟨rfl, rfl⟩
  | true =>
    obtain ⟨h1, h12, _⟩ := isLine_size hL
    simp only [if_true]
    rw [liLast_eq a (by omega) k (by omega), impl_last_eq a (by omega)]
    exact ⟨rfl, rfl⟩
theorem cl_both (x y z : Int) (k : Nat) (hk : 100 ≤ k) : spec_CountLines.f k x y z = some (clA x y z) ∧ impl_CountLines.f k x y z = some (clA x y z) := by
  unfold spec_CountLines.f impl_CountLines.f clA
  rw [spec_three3 x y z k (by omega), impl_three3]
  simp only [Option.bind_some]
  cases h : threeB 12 x y z with
  | false => exact ⟨rfl, rfl⟩
  | true =>
    obtain ⟨t, g, f, rfl, rfl, rfl, h1, h2⟩ := threeB_is (by omega) h
    rw [if_pos rfl, if_pos rfl, many_eq t g f (by omega) k (by omega), at_rounds (impl_lines.mono t g f) (show 100 ≤ k by omega) (lines_eq t g f (by omega))]
    exact ⟨rfl, rfl⟩
theorem first_both (x y z : Int) (k : Nat) (hk : 100 ≤ k) : spec_FirstLine.f k x y z = some (firstA x y z) ∧ impl_FirstLine.f x y z = some (firstA x y z) := by
  unfold spec_FirstLine.f impl_FirstLine.f firstA
  rw [spec_three3 x y z k (by omega), impl_three3]
  simp only [Option.bind_some]
  cases h : threeB 12 x y z with
  | false => exact ⟨rfl, rfl⟩
  | true =>
    obtain ⟨i, j, l, rfl, rfl, rfl, h1, h2⟩ := threeB_is (by omega) h
    simp only [if_true]
    unfold spec_liFirst.f impl_first.f impl_ordered.f
    rw [show Utf8.encode 84 = (⟨#[84]⟩ : ByteArray) from by decide, show Utf8.encode 70 = (⟨#[70]⟩ : ByteArray) from by decide]
    rw [liTimes_eq 84 i k (by omega) (by omega), liTimes_eq 46 j k (by omega) (by omega), liTimes_eq 70 l k (by omega) (by omega), repeat_eq 84 i (by omega), repeat_eq 46 j (by omega), repeat_eq 70 l (by omega)]
    simp only [Option.bind_some]
    rw [if_pos (by rw [reps_size, reps_size]; omega), if_pos (by rw [size_append, reps_size, reps_size, reps_size]; omega)]
    exact ⟨rfl, rfl⟩
theorem pl_both (a : ByteArray) (hs : a.size ≤ 140737488351232) (r : List S46) (k : Nat) (hk : r.length + 200 < k) : (spec_PlayMoves.f k a r = some (plA a r) ∧ impl_PlayMoves.f a r = some (plA a r)) ∧ spec_MoveThatFails.f k a r = some (mfA a r) ∧ impl_MoveThatFails.f a r = some (mfA a r) := by
  unfold spec_PlayMoves.f impl_PlayMoves.f spec_MoveThatFails.f impl_MoveThatFails.f impl_IsLine.f plA mfA
  rw [liAsked_eq a hs r k (by omega), show impl_isLineOf.f a 12 = some (isLine 12 a) from isLineOf_eq a 12 hs]
  simp only [Option.bind_some]
  cases hL : isLine 12 a with
  | false => exact ⟨⟨rfl, rfl⟩, rfl, rfl⟩
  | true =>
    obtain ⟨h1, h12, _⟩ := isLine_size hL
    simp only [if_true, Bool.true_and, true_and]
    by_cases hl : 100 < r.length
    · rw [decide_eq_false (by omega), if_neg (by decide), if_pos hl, if_neg (by omega), if_neg (by decide), if_pos hl, if_neg (by omega)]
      exact ⟨⟨rfl, rfl⟩, rfl, rfl⟩
    · rw [decide_eq_true (by omega), if_pos rfl, if_neg hl, if_pos rfl, if_neg hl, liPlay_eq r (by omega) a ⟨h1, by omega⟩ k (by omega), playL_eq lineI _ canB line_can line_made r a 0 ⟨h1, by omega⟩]
      simp only [Option.bind_some, ends, Nat.zero_add]
      by_cases he : (stop canB r a 0).2 = r.length
      · have hi : (((stop canB r a 0).2 : Nat) : Int) = (r.length : Int) := by omega
        simp [he, show r.length ≤ 100 by omega]
      · have hi : ¬ (((stop canB r a 0).2 : Nat) : Int) = (r.length : Int) := by omega
        have hb := stop_le canB r a 0
        simp [he, hi, show r.length ≤ 100 by omega]
        omega
end Go.Proofs.YtgiphajcffambaaDoor.XA
