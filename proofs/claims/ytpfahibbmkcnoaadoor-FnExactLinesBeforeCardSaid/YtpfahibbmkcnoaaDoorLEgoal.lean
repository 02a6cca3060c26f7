/- Which moves a line allows, for the reference and for the program: for all texts of 1 to 1000 bytes and all pairs of numbers. -/
import Derived.Test.YtpfahibbmkcnoaaDoorXE1
import Derived.Test.YtpfahibbmkcnoaaDoorXE3
import Derived.Test.YtpfahibbmkcnoaaDoorXE6
import Derived.Test.YtpfahibbmkcnoaaDoorLEgoal0
namespace Go.Proofs.YtpfahibbmkcnoaaDoor.XE
set_option linter.unusedVariables false
set_option linter.unusedSimpArgs false
open Go Go.RowKit Go.Proofs.YtpfahibbmkcnoaaDoorW.PrintWords Go.Proofs.YtpfahibbmkcnoaaDoorB

def canP (a : ByteArray) (f t : Int) : Prop := 0 ≤ f ∧ f < (a.size : Int) ∧ 0 ≤ t ∧ t < (a.size : Int) ∧ bt a t = 46 ∧
  ((bt a f = 84 ∧ (t = f + 1 ∨ (t = f + 2 ∧ bt a (f + 1) = 70))) ∨ (bt a f = 70 ∧ (t = f + (-1) ∨ (t = f + (-2) ∧ bt a (f + (-1)) = 84))))
instance (a : ByteArray) (f t : Int) : Decidable (canP a f t) := by unfold canP; infer_instance
theorem liCan_eq (a : ByteArray) (hs1 : 1 ≤ a.size) (hs : a.size ≤ 1000) (f t : Int) (k : Nat) (hk : 1 ≤ k) : spec_liCan.f k a f t = some (decide (canP a f t)) := by
  obtain ⟨k, rfl⟩ : ∃ m, k = m + 1 := ⟨k - 1, by omega⟩
  unfold spec_liCan.f
  have e : wrap64 ((a.size : Int) - 1) = (a.size : Int) - 1 := w64 (by omega) (by omega)
  rw [e, l1In_eq, l1In_eq]
  simp only [Option.bind_some, spec_liCan.j0]
  by_cases hf : 0 ≤ f ∧ f ≤ (a.size : Int) - 1
  case neg =>
    rw [if_neg (by simp; omega), if_pos trivial, decide_eq_false (fun h => hf ⟨h.1, by have := h.2.1; omega⟩)]
  rw [if_pos (by simp; omega)]
  by_cases ht : 0 ≤ t ∧ t ≤ (a.size : Int) - 1
  case neg =>
    rw [if_neg (by simp; omega), if_pos trivial, decide_eq_false (fun h => ht ⟨h.2.2.1, by have := h.2.2.2.1; omega⟩)]
  rw [if_pos (by simp; omega), if_pos ht.1, if_pos (show t < (a.size : Int) by omega)]
  by_cases h46 : bt a t = 46
  case neg =>
    rw [if_pos (by simpa using h46), decide_eq_false (fun h => h46 h.2.2.2.2.1)]
  have f1 : f < (a.size : Int) := by omega
  have t1 : t < (a.size : Int) := by omega
  rw [show (bt a t != 46) = false from by simp [h46], if_neg (by decide), if_pos hf.1, if_pos f1, w64 (x := f + 1) (by omega) (by omega), w64 (x := f + 2) (by omega) (by omega), w64 (x := f + (-1)) (by omega) (by omega), w64 (x := f + (-2)) (by omega) (by omega)]
  by_cases c84 : bt a f = 84
  · rw [if_pos c84]
    by_cases q1 : t = f + 1
    · rw [if_pos q1, decide_eq_true (show canP a f t from ⟨hf.1, f1, ht.1, t1, h46, .inl ⟨c84, .inl q1⟩⟩)]
    · rw [if_neg q1]
      by_cases q2 : t = f + 2
      · rw [if_pos q2, if_pos (by omega), if_pos (by omega)]
        by_cases q3 : bt a (f + 1) = 70
        · rw [decide_eq_true (show canP a f t from ⟨hf.1, f1, ht.1, t1, h46, .inl ⟨c84, .inr ⟨q2, q3⟩⟩⟩), q3]
          rfl
        · rw [decide_eq_false (fun h => ?_), show (bt a (f + 1) == 70) = false from by simp [q3]]
          rcases h.2.2.2.2.2 with ⟨_, h | h⟩ | ⟨h, _⟩
          · exact q1 h
          · exact q3 h.2
          · omega
      · rw [if_neg q2, decide_eq_false (fun h => ?_)]
        rcases h.2.2.2.2.2 with ⟨_, h | h⟩ | ⟨h, _⟩
        · exact q1 h
        · exact q2 h.1
        · omega
  · rw [if_neg c84]
    by_cases c70 : bt a f = 70
    · rw [if_pos c70]
      by_cases q1 : t = f + (-1)
      · rw [if_pos q1, decide_eq_true (show canP a f t from ⟨hf.1, f1, ht.1, t1, h46, .inr ⟨c70, .inl q1⟩⟩)]
      · rw [if_neg q1]
        by_cases q2 : t = f + (-2)
        · rw [if_pos q2, if_pos (by omega), if_pos (by omega)]
          by_cases q3 : bt a (f + (-1)) = 84
          · rw [decide_eq_true (show canP a f t from ⟨hf.1, f1, ht.1, t1, h46, .inr ⟨c70, .inr ⟨q2, q3⟩⟩⟩), q3]
            rfl
          · rw [decide_eq_false (fun h => ?_), show (bt a (f + (-1)) == 84) = false from by simp [q3]]
            rcases h.2.2.2.2.2 with ⟨h, _⟩ | ⟨_, h | h⟩
            · exact c84 h
            · exact q1 h
            · exact q3 h.2
        · rw [if_neg q2, decide_eq_false (fun h => ?_)]
          rcases h.2.2.2.2.2 with ⟨h, _⟩ | ⟨_, h | h⟩
          · exact c84 h
          · exact q1 h
          · exact q2 h.1
    · rw [if_neg c70, decide_eq_false (fun h => ?_)]
      rcases h.2.2.2.2.2 with ⟨h, _⟩ | ⟨h, _⟩
      · exact c84 h
      · exact c70 h
theorem impl_can_eq (a : ByteArray) (hs1 : 1 ≤ a.size) (hs : a.size ≤ 1000) (f t : Int) : impl_can.f a f t = some (decide (canP a f t)) := by
  unfold impl_can.f
  have e : wrap64 ((a.size : Int) - 1) = (a.size : Int) - 1 := w64 (by omega) (by omega)
  rw [e, within_eq]
  simp only [Option.bind_some]
  by_cases hf : 0 ≤ f ∧ f ≤ (a.size : Int) - 1
  case neg =>
    rw [if_neg (by simp; omega), decide_eq_false (fun h => hf ⟨h.1, by have := h.2.1; omega⟩)]
  rw [if_pos (by simp; omega)]
  have f1 : f < (a.size : Int) := by omega
  unfold impl_goal.f
  rw [if_pos hf.1, if_pos f1]
  unfold impl_stepOf.f impl_other.f
  by_cases c84 : bt a f = 84
  · rw [if_pos c84]
    simp only [Option.bind_some, impl_at_eq]
    rw [if_neg (by decide), w64 (x := f + 1) (by omega) (by omega), w64 (x := 2 * 1) (by omega) (by omega), w64 (x := f + 2 * 1) (by omega) (by omega), if_pos c84]
    simp only [Option.bind_some]
    by_cases q1 : sg a (f + 1) = 46
    · obtain ⟨g0, g1, g2⟩ := sg_is q1 (by decide)
      rw [if_pos q1]
      simp only [Option.bind_some, if_true]
      by_cases q2 : t = f + 1
      · subst q2
        rw [decide_eq_true (show canP a f (f + 1) from ⟨hf.1, f1, g0, g1, g2, .inl ⟨c84, .inl rfl⟩⟩), beq_self_eq_true]
      · rw [decide_eq_false (fun h => ?_), show (f + 1 == t) = false from by simp; omega]
        rcases h.2.2.2.2.2 with ⟨_, h | h⟩ | ⟨h, _⟩ <;> omega
    · rw [if_neg q1]
      by_cases q2 : sg a (f + 1) = 70
      · obtain ⟨g0, g1, g2⟩ := sg_is q2 (by decide)
        rw [if_pos q2]
        by_cases q3 : sg a (f + 2 * 1) = 46
        · obtain ⟨m0, m1, m2⟩ := sg_is q3 (by decide)
          rw [if_pos q3]
          simp only [Option.bind_some, if_true]
          by_cases q4 : t = f + 2 * 1
          · subst q4
            rw [decide_eq_true (show canP a f (f + 2 * 1) from ⟨hf.1, f1, m0, m1, m2, .inl ⟨c84, .inr ⟨rfl, g2⟩⟩⟩), beq_self_eq_true]
          · rw [decide_eq_false (fun h => ?_), show (f + 2 * 1 == t) = false from by simp; omega]
            have h5 := h.2.2.2.2.1
            rcases h.2.2.2.2.2 with ⟨_, h | h⟩ | ⟨h, _⟩
            · subst h; omega
            · omega
            · omega
        · rw [if_neg q3]
          simp only [Option.bind_some]
          rw [if_neg (by decide), decide_eq_false (fun h => ?_)]
          have h3 := h.2.2.1
          have h4 := h.2.2.2.1
          have h5 := h.2.2.2.2.1
          rcases h.2.2.2.2.2 with ⟨_, h | h⟩ | ⟨h, _⟩
          · subst h; omega
          · have h6 := h.1
            subst h6
            exact q3 ((sg_in h3 h4).trans h5)
          · omega
      · rw [if_neg q2]
        simp only [Option.bind_some]
        rw [if_neg (by decide), decide_eq_false (fun h => ?_)]
        have h3 := h.2.2.1
        have h4 := h.2.2.2.1
        have h5 := h.2.2.2.2.1
        rcases h.2.2.2.2.2 with ⟨_, h | h⟩ | ⟨h, _⟩
        · subst h
          exact q1 ((sg_in h3 h4).trans h5)
        · exact q2 ((sg_in (by omega) (by omega)).trans h.2)
        · omega
  · rw [if_neg c84]
    by_cases c70 : bt a f = 70
    · rw [if_pos c70]
      simp only [Option.bind_some, impl_at_eq]
      rw [if_neg (by decide), w64 (x := f + -1) (by omega) (by omega), w64 (x := 2 * -1) (by omega) (by omega), w64 (x := f + 2 * -1) (by omega) (by omega), if_neg c84, if_pos c70]
      simp only [Option.bind_some]
      by_cases q1 : sg a (f + -1) = 46
      · obtain ⟨g0, g1, g2⟩ := sg_is q1 (by decide)
        rw [if_pos q1]
        simp only [Option.bind_some, if_true]
        by_cases q2 : t = f + -1
        · subst q2
          rw [decide_eq_true (show canP a f (f + -1) from ⟨hf.1, f1, g0, g1, g2, .inr ⟨c70, .inl rfl⟩⟩), beq_self_eq_true]
        · rw [decide_eq_false (fun h => ?_), show (f + -1 == t) = false from by simp; omega]
          rcases h.2.2.2.2.2 with ⟨h, _⟩ | ⟨_, h | h⟩ <;> omega
      · rw [if_neg q1]
        by_cases q2 : sg a (f + -1) = 84
        · obtain ⟨g0, g1, g2⟩ := sg_is q2 (by decide)
          rw [if_pos q2]
          by_cases q3 : sg a (f + 2 * -1) = 46
          · obtain ⟨m0, m1, m2⟩ := sg_is q3 (by decide)
            rw [if_pos q3]
            simp only [Option.bind_some, if_true]
            by_cases q4 : t = f + 2 * -1
            · subst q4
              rw [decide_eq_true (show canP a f (f + 2 * -1) from ⟨hf.1, f1, m0, m1, m2, .inr ⟨c70, .inr ⟨rfl, g2⟩⟩⟩), beq_self_eq_true]
            · rw [decide_eq_false (fun h => ?_), show (f + 2 * -1 == t) = false from by simp; omega]
              have h5 := h.2.2.2.2.1
              rcases h.2.2.2.2.2 with ⟨h, _⟩ | ⟨_, h | h⟩
              · omega
              · subst h; omega
              · omega
          · rw [if_neg q3]
            simp only [Option.bind_some]
            rw [if_neg (by decide), decide_eq_false (fun h => ?_)]
            have h3 := h.2.2.1
            have h4 := h.2.2.2.1
            have h5 := h.2.2.2.2.1
            rcases h.2.2.2.2.2 with ⟨h, _⟩ | ⟨_, h | h⟩
            · omega
            · subst h; omega
            · have h6 := h.1
              subst h6
              exact q3 ((sg_in h3 h4).trans h5)
        · rw [if_neg q2]
          simp only [Option.bind_some]
          rw [if_neg (by decide), decide_eq_false (fun h => ?_)]
          have h3 := h.2.2.1
          have h4 := h.2.2.2.1
          have h5 := h.2.2.2.2.1
          rcases h.2.2.2.2.2 with ⟨h, _⟩ | ⟨_, h | h⟩
          · omega
          · subst h
            exact q1 ((sg_in h3 h4).trans h5)
          · exact q2 ((sg_in (by omega) (by omega)).trans h.2)
    · rw [if_neg c70]
      simp only [Option.bind_some]
      rw [if_pos trivial]
      simp only [Option.bind_some]
      rw [if_neg (by decide), decide_eq_false (fun h => ?_)]
      rcases h.2.2.2.2.2 with ⟨h, _⟩ | ⟨h, _⟩
      · exact c84 h
      · exact c70 h
end Go.Proofs.YtpfahibbmkcnoaaDoor.XE
