/- The Lean functions that the Go functions of this seat compute, each with the proof that the Go function computes it, for every input (laws: FnLinesRankedOfAll). Conditions: none beyond those that each theorem names. Written by a program of this session over the kit's printer. -/
import Derived.Test.YtgiphajcffambaaDoorXA11
import Derived.Laws.Cover1
import Derived.Test.YtgiphajcffambaaDoorXA0
import Derived.Test.YtgiphajcffambaaDoorXA3
import Derived.Test.YtgiphajcffambaaDoorXA4
import Derived.Test.YtgiphajcffambaaDoorXA5
import Derived.Test.YtgiphajcffambaaDoorXA6
import Derived.Test.YtgiphajcffambaaDoorXA7
import Derived.Test.YtgiphajcffambaaDoorXA8
import Derived.Test.YtgiphajcffambaaDoorXA9
namespace Go.Proofs.YtgiphajcffambaaDoor.XA
open Go.RowKit Go.Proofs.YtgiphajcffambaaDoorW.PrintWords Go.Proofs.YtgiphajcffambaaDoorW.PrintLast Go.Proofs.YtgiphajcffambaaDoorW.PrintMore
attribute [local go_sem] max2_int min2_int max_two min_two max_three min_three max_four min_four   -- for this text's walks alone
attribute [local go_sem] Lib.run_min_strs Go.Proofs.YtgiphajcffambaaDoorXW.run_min2_strs Go.Proofs.YtgiphajcffambaaDoorXW.run_int_string
set_option linter.unusedVariables false
set_option linter.unusedSimpArgs false

set_option maxHeartbeats 8000000 in
set_option maxRecDepth 100000 in
theorem laws_FnLinesRankedOfAll.part1 : laws_FnLinesRankedOfAll.parts.1.1 := by
  unfold laws_FnLinesRankedOfAll.parts
  intro k a0 a1 a2 a3 a4 a5 A6 c6 l6 r w hu46 HR6 HC6 in1 in2 wc u71 u72 u73 u74 u75 u76 u77 u78 u79 u80 u81 u82 u83 u84 u85 u86 u87 u88 u89 kj7 HJ7 t207 t208 A12 t209 t210 A13 t211 t212 t213 t214 A14 t215 t216 t217 t218 A15 t219 t220 A16 t221 t222 A17 HC18 w19 in3 w20 in4 w21 HB nd in5 in6 in7 in8 in9 in10 in11 in12
  have H := HC18.out
  clear HC18
  by_cases c22 : (t208 != t210) = true
  · rw [if_pos c22] at H
    have c22b0 : (t208 != t210) = true := c22
    (try (have c22b1 : decide (t208 = t210) = false := by simpa using c22))
    (try (have c22b2 : (t208 == t210) = false := by simpa using c22))
    (try (have c22b3 : ¬ (t208 = t210) := by simpa using c22))
    clear c22
    (first | rw [c22b0] | (simp only [i64_w, i32_w]; rw [c22b0]) | skip)
    have H' := Aside0.mk H
    clear H
    go_wp2
    go_meet
    case rel => exact ⟨_, (true), (by first | rfl | (simp; done) | (simp [*]; done)), H', ⟨by have := HJ7.out; first | omega | exact Nat.le_refl _⟩, ⟨by repeat (first | (with_reducible first | exact HB.out | apply below_alloc | apply pw_below_drewN | apply below_drew1) | exact HB.out)⟩⟩
  · rw [if_neg c22] at H
    have c22b0 : (t208 != t210) = false := by simpa using c22
    (try (have c22b1 : decide (t208 = t210) = true := by simpa using c22))
    (try (have c22b2 : (t208 == t210) = true := by simpa using c22))
    clear c22
    (first | rw [c22b0] | (simp only [i64_w, i32_w]; rw [c22b0]) | skip)
    by_cases c23 : t207 = t209
    · rw [if_pos c23] at H
      have c23b0 : (t207 == t209) = true := beq_iff_eq.mpr c23
      have c23b1 : (t207 != t209) = false := bne_eq_false_iff_eq.mpr c23
      clear c23
      by_cases c24 : (t214 != t218) = true
      · rw [if_pos c24] at H
        have c24b0 : (t214 != t218) = true := c24
        (try (have c24b1 : decide (t214 = t218) = false := by simpa using c24))
        (try (have c24b2 : (t214 == t218) = false := by simpa using c24))
        (try (have c24b3 : ¬ (t214 = t218) := by simpa using c24))
        clear c24
        have H' := Aside0.mk H
        clear H
        go_wp2
        go_meet
        case rel => exact ⟨_, (true), (by first | rfl | (simp; done) | (simp [*]; done)), H', ⟨by have := HJ7.out; first | omega | exact Nat.le_refl _⟩, ⟨by repeat (first | (with_reducible first | exact HB.out | apply below_alloc | apply pw_below_drewN | apply below_drew1) | exact HB.out)⟩⟩
      · rw [if_neg c24] at H
        have c24b0 : (t214 != t218) = false := by simpa using c24
        (try (have c24b1 : decide (t214 = t218) = true := by simpa using c24))
        (try (have c24b2 : (t214 == t218) = true := by simpa using c24))
        clear c24
        by_cases c25 : t211 = t215
        · rw [if_pos c25] at H
          have c25b0 : (t211 == t215) = true := beq_iff_eq.mpr c25
          have c25b1 : (t211 != t215) = false := bne_eq_false_iff_eq.mpr c25
          clear c25
          by_cases c26 : t212 = t216
          · rw [if_pos c26] at H
            have c26b0 : (t212 == t216) = true := beq_iff_eq.mpr c26
            have c26b1 : (t212 != t216) = false := bne_eq_false_iff_eq.mpr c26
            clear c26
            by_cases c27 : t213 = t217
            · rw [if_pos c27] at H
              have c27b0 : (t213 == t217) = true := beq_iff_eq.mpr c27
              have c27b1 : (t213 != t217) = false := bne_eq_false_iff_eq.mpr c27
              clear c27
              by_cases c28 : (t220 != t222) = true
              · rw [if_pos c28] at H
                have c28b0 : (t220 != t222) = true := c28
                (try (have c28b1 : decide (t220 = t222) = false := by simpa using c28))
                (try (have c28b2 : (t220 == t222) = false := by simpa using c28))
                (try (have c28b3 : ¬ (t220 = t222) := by simpa using c28))
                clear c28
                have H' := Aside0.mk H
                clear H
                go_wp2
                go_meet
                case rel => exact ⟨_, (true), (by first | rfl | (simp; done) | (simp [*]; done)), H', ⟨by have := HJ7.out; first | omega | exact Nat.le_refl _⟩, ⟨by repeat (first | (with_reducible first | exact HB.out | apply below_alloc | apply pw_below_drewN | apply below_drew1) | exact HB.out)⟩⟩
              · rw [if_neg c28] at H
                have c28b0 : (t220 != t222) = false := by simpa using c28
                (try (have c28b1 : decide (t220 = t222) = true := by simpa using c28))
                (try (have c28b2 : (t220 == t222) = true := by simpa using c28))
                clear c28
                by_cases c29 : t219.toList = t221.toList
                · rw [if_pos c29] at H
                  have c29b0 : (t219.toList == t221.toList) = true := beq_iff_eq.mpr c29
                  have c29b1 : (t219.toList != t221.toList) = false := bne_eq_false_iff_eq.mpr c29
                  clear c29
                  by_cases c30 : (t214 != t208) = true
                  · rw [if_pos c30] at H
                    have c30b0 : (t214 != t208) = true := c30
                    (try (have c30b1 : decide (t214 = t208) = false := by simpa using c30))
                    (try (have c30b2 : (t214 == t208) = false := by simpa using c30))
                    (try (have c30b3 : ¬ (t214 = t208) := by simpa using c30))
                    clear c30
                    have H' := Aside0.mk H
                    clear H
                    go_wp2
                    go_meet
                    case rel => exact ⟨_, (true), (by first | rfl | (simp; done) | (simp [*]; done)), H', ⟨by have := HJ7.out; first | omega | exact Nat.le_refl _⟩, ⟨by repeat (first | (with_reducible first | exact HB.out | apply below_alloc | apply pw_below_drewN | apply below_drew1) | exact HB.out)⟩⟩
                  · rw [if_neg c30] at H
                    have c30b0 : (t214 != t208) = false := by simpa using c30
                    (try (have c30b1 : decide (t214 = t208) = true := by simpa using c30))
                    (try (have c30b2 : (t214 == t208) = true := by simpa using c30))
                    clear c30
                    have H' := Aside0.mk H
                    clear H
                    go_wp2
                    go_meet
                    case rel => exact ⟨_, ((t220 != t208)), (by first | rfl | (simp; done) | (simp [*]; done)), H', ⟨by have := HJ7.out; first | omega | exact Nat.le_refl _⟩, ⟨by repeat (first | (with_reducible first | exact HB.out | apply below_alloc | apply pw_below_drewN | apply below_drew1) | exact HB.out)⟩⟩
                · rw [if_neg c29] at H
                  have c29b0 : (t219.toList == t221.toList) = false := beq_eq_false_iff_ne.mpr c29
                  have c29b1 : (t219.toList != t221.toList) = true := bne_iff_ne.mpr c29
                  have H' := Aside0.mk H
                  clear H
                  go_wp2
                  go_meet
                  case rel => exact ⟨_, (true), (by first | rfl | (simp; done) | (simp [*]; done)), H', ⟨by have := HJ7.out; first | omega | exact Nat.le_refl _⟩, ⟨by repeat (first | (with_reducible first | exact HB.out | apply below_alloc | apply pw_below_drewN | apply below_drew1) | exact HB.out)⟩⟩
            · rw [if_neg c27] at H
              have c27b0 : (t213 == t217) = false := beq_eq_false_iff_ne.mpr c27
              have c27b1 : (t213 != t217) = true := bne_iff_ne.mpr c27
              have H' := Aside0.mk H
              clear H
              go_wp2
              go_meet
              case rel => exact ⟨_, (true), (by first | rfl | (simp; done) | (simp [*]; done)), H', ⟨by have := HJ7.out; first | omega | exact Nat.le_refl _⟩, ⟨by repeat (first | (with_reducible first | exact HB.out | apply below_alloc | apply pw_below_drewN | apply below_drew1) | exact HB.out)⟩⟩
          · rw [if_neg c26] at H
            have c26b0 : (t212 == t216) = false := beq_eq_false_iff_ne.mpr c26
            have c26b1 : (t212 != t216) = true := bne_iff_ne.mpr c26
            have H' := Aside0.mk H
            clear H
            go_wp2
            go_meet
            case rel => exact ⟨_, (true), (by first | rfl | (simp; done) | (simp [*]; done)), H', ⟨by have := HJ7.out; first | omega | exact Nat.le_refl _⟩, ⟨by repeat (first | (with_reducible first | exact HB.out | apply below_alloc | apply pw_below_drewN | apply below_drew1) | exact HB.out)⟩⟩
        · rw [if_neg c25] at H
          have c25b0 : (t211 == t215) = false := beq_eq_false_iff_ne.mpr c25
          have c25b1 : (t211 != t215) = true := bne_iff_ne.mpr c25
          have H' := Aside0.mk H
          clear H
          go_wp2
          go_meet
          case rel => exact ⟨_, (true), (by first | rfl | (simp; done) | (simp [*]; done)), H', ⟨by have := HJ7.out; first | omega | exact Nat.le_refl _⟩, ⟨by repeat (first | (with_reducible first | exact HB.out | apply below_alloc | apply pw_below_drewN | apply below_drew1) | exact HB.out)⟩⟩
    · rw [if_neg c23] at H
      have c23b0 : (t207 == t209) = false := beq_eq_false_iff_ne.mpr c23
      have c23b1 : (t207 != t209) = true := bne_iff_ne.mpr c23
      have H' := Aside0.mk H
      clear H
      go_wp2
      go_meet
      case rel => exact ⟨_, (true), (by first | rfl | (simp; done) | (simp [*]; done)), H', ⟨by have := HJ7.out; first | omega | exact Nat.le_refl _⟩, ⟨by repeat (first | (with_reducible first | exact HB.out | apply below_alloc | apply pw_below_drewN | apply below_drew1) | exact HB.out)⟩⟩

end Go.Proofs.YtgiphajcffambaaDoor.XA
