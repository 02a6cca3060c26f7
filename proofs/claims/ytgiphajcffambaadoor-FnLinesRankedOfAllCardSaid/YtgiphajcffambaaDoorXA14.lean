/- The Lean functions that the Go functions of this seat compute, each with the proof that the Go function computes it, for every input (laws: FnLinesRankedOfAll). Conditions: none beyond those that each theorem names. Written by a program of this session over the kit's printer. -/
import Derived.Test.YtgiphajcffambaaDoorXA11
import Derived.Laws.Cover1
import Derived.Test.YtgiphajcffambaaDoorXA0
import Derived.Test.YtgiphajcffambaaDoorXA3
import Derived.Test.YtgiphajcffambaaDoorXA4
import Derived.Test.YtgiphajcffambaaDoorXA5
import Derived.Test.YtgiphajcffambaaDoorXA6
import Derived.Test.YtgiphajcffambaaDoorXA7
import Derived.Test.YtgiphajcffambaaDoorXA8
import Derived.Test.YtgiphajcffambaaDoorXA9
namespace Go.Proofs.YtgiphajcffambaaDoor.XA
open Go.RowKit Go.Proofs.YtgiphajcffambaaDoorW.PrintWords Go.Proofs.YtgiphajcffambaaDoorW.PrintLast Go.Proofs.YtgiphajcffambaaDoorW.PrintMore
attribute [local go_sem] max2_int min2_int max_two min_two max_three min_three max_four min_four   -- for this text's walks alone
attribute [local go_sem] Lib.run_min_strs Go.Proofs.YtgiphajcffambaaDoorXW.run_min2_strs Go.Proofs.YtgiphajcffambaaDoorXW.run_int_string
set_option linter.unusedVariables false
set_option linter.unusedSimpArgs false

set_option maxHeartbeats 8000000 in
set_option maxRecDepth 100000 in
theorem laws_FnLinesRankedOfAll.part3 : laws_FnLinesRankedOfAll.parts.1.2.2.1 := by
  unfold laws_FnLinesRankedOfAll.parts
  intro k a0 a1 a2 a3 a4 a5 A6 c6 l6 r w hu46 HR6 HC6 in1 in2 in3 u71 u72 u73 u74 u75 u76 u77 u78 u79 u80 u81 u82 u83 u84 u85 u86 u87 u88 u89 kj7 HJ7 t207 t208 A12 t209 t210 A13 t211 t212 t213 t214 A14 t215 t216 t217 t218 A15 t219 t220 A16 t221 t222 A17 w19 in4 w20 in5 w21 in6 in7 in8 u91 u92 u93 u94 u95 u96 u97 u98 u99 u100 u101 u102 u103 u104 u105 u106 u107 u108 u109 u110 u111 u112 u113 u114 u115 u116 u117 u118 u119 u120 u121 u122 u123 u124 u125 u126 u127 u128 u129 u130 u131 u132 u133 u134 u135 u136 u137 u138 u139 u140 u141 u142 u143 u144 u145 u146 u147 u148 u149 u150 u151 u152 u153 u154 u155 u156 u157 u158 u159 u160 u161 u162 u163 u164 u165 u166 u167 u168 u169 u170 u171 in9 kj17 HJ17 wc u14 u31 u32 u33 u34 u35 u36 u37 u38 u39 u40 u41 u42 u173 u174 u175 u176 u177 u178 u179 u180 u181 u182 u183 u184 u185 u186 u187 u188 u189 u190 u191 u192 u193 u194 u195 u196 u197 u198 u199 u200 u201 u202 u203 u204 u205 u206 u207 u208 u209 u210 u211 u212 u213 u214 u215 u216 u217 u218 u219 u220 u221 u222 u223 u224 u225 u226 u227 u228 u229 u230 u231 u232 u233 u234 u235 u236 u237 u238 u239 u240 u241 u242 u243 u244 u245 u246 u247 u248 u249 u250 u251 u252 u253 u254 u255 u256 u257 u258 u259 u260 u261 u262 u263 u264 u265 u266 u267 u268 u269 u270 u271 u272 u273 u274 u275 u276 u277 kj31 HJ31 t235 t236 A61 t237 t238 A62 t239 t240 A63 t241 t242 A64 t243 t244 A65 t245 t246 A66 t247 t248 A67 t249 t250 A68 t251 t252 A69 t253 t254 A70 HC71 w72 w73 w74 w75 nd w76 w77 w78 w79 w80 HB in10 in11 in12 in13 in14 in15 in16 in17
  have H := HC71.out
  clear HC71
  by_cases c81 : (t236 != t238) = true
  · rw [if_pos c81] at H
    have c81b0 : (t236 != t238) = true := c81
    (try (have c81b1 : decide (t236 = t238) = false := by simpa using c81))
    (try (have c81b2 : (t236 == t238) = false := by simpa using c81))
    (try (have c81b3 : ¬ (t236 = t238) := by simpa using c81))
    clear c81
    (first | rw [c81b0] | (simp only [i64_w, i32_w]; rw [c81b0]) | skip)
    have H' := Aside0.mk H
    clear H
    go_wp2
    go_meet
    case rel => exact ⟨_, (true), (by first | rfl | (simp; done) | (simp [*]; done)), H', ⟨by have := HJ7.out; have := HJ17.out; have := HJ31.out; first | omega | exact Nat.le_refl _⟩, ⟨by repeat (first | (with_reducible first | exact HB.out | apply below_alloc | apply pw_below_drewN | apply below_drew1) | exact HB.out)⟩⟩
  · rw [if_neg c81] at H
    have c81b0 : (t236 != t238) = false := by simpa using c81
    (try (have c81b1 : decide (t236 = t238) = true := by simpa using c81))
    (try (have c81b2 : (t236 == t238) = true := by simpa using c81))
    clear c81
    (first | rw [c81b0] | (simp only [i64_w, i32_w]; rw [c81b0]) | skip)
    by_cases c82 : t235.toList = t237.toList
    · rw [if_pos c82] at H
      have c82b0 : (t235.toList == t237.toList) = true := beq_iff_eq.mpr c82
      have c82b1 : (t235.toList != t237.toList) = false := bne_eq_false_iff_eq.mpr c82
      clear c82
      by_cases c83 : (t240 != t242) = true
      · rw [if_pos c83] at H
        have c83b0 : (t240 != t242) = true := c83
        (try (have c83b1 : decide (t240 = t242) = false := by simpa using c83))
        (try (have c83b2 : (t240 == t242) = false := by simpa using c83))
        (try (have c83b3 : ¬ (t240 = t242) := by simpa using c83))
        clear c83
        have H' := Aside0.mk H
        clear H
        go_wp2
        go_meet
        case rel => exact ⟨_, (true), (by first | rfl | (simp; done) | (simp [*]; done)), H', ⟨by have := HJ7.out; have := HJ17.out; have := HJ31.out; first | omega | exact Nat.le_refl _⟩, ⟨by repeat (first | (with_reducible first | exact HB.out | apply below_alloc | apply pw_below_drewN | apply below_drew1) | exact HB.out)⟩⟩
      · rw [if_neg c83] at H
        have c83b0 : (t240 != t242) = false := by simpa using c83
        (try (have c83b1 : decide (t240 = t242) = true := by simpa using c83))
        (try (have c83b2 : (t240 == t242) = true := by simpa using c83))
        clear c83
        by_cases c84 : t239.toList = t241.toList
        · rw [if_pos c84] at H
          have c84b0 : (t239.toList == t241.toList) = true := beq_iff_eq.mpr c84
          have c84b1 : (t239.toList != t241.toList) = false := bne_eq_false_iff_eq.mpr c84
          clear c84
          by_cases c85 : (t244 != t246) = true
          · rw [if_pos c85] at H
            have c85b0 : (t244 != t246) = true := c85
            (try (have c85b1 : decide (t244 = t246) = false := by simpa using c85))
            (try (have c85b2 : (t244 == t246) = false := by simpa using c85))
            (try (have c85b3 : ¬ (t244 = t246) := by simpa using c85))
            clear c85
            have H' := Aside0.mk H
            clear H
            go_wp2
            go_meet
            case rel => exact ⟨_, (true), (by first | rfl | (simp; done) | (simp [*]; done)), H', ⟨by have := HJ7.out; have := HJ17.out; have := HJ31.out; first | omega | exact Nat.le_refl _⟩, ⟨by repeat (first | (with_reducible first | exact HB.out | apply below_alloc | apply pw_below_drewN | apply below_drew1) | exact HB.out)⟩⟩
          · rw [if_neg c85] at H
            have c85b0 : (t244 != t246) = false := by simpa using c85
            (try (have c85b1 : decide (t244 = t246) = true := by simpa using c85))
            (try (have c85b2 : (t244 == t246) = true := by simpa using c85))
            clear c85
            by_cases c86 : t243 = t245
            · rw [if_pos c86] at H
              have c86b0 : (t243 == t245) = true := beq_iff_eq.mpr c86
              have c86b1 : (t243 != t245) = false := bne_eq_false_iff_eq.mpr c86
              clear c86
              by_cases c87 : (t244 != t240) = true
              · rw [if_pos c87] at H
                have c87b0 : (t244 != t240) = true := c87
                (try (have c87b1 : decide (t244 = t240) = false := by simpa using c87))
                (try (have c87b2 : (t244 == t240) = false := by simpa using c87))
                (try (have c87b3 : ¬ (t244 = t240) := by simpa using c87))
                clear c87
                have H' := Aside0.mk H
                clear H
                go_wp2
                go_meet
                case rel => exact ⟨_, (true), (by first | rfl | (simp; done) | (simp [*]; done)), H', ⟨by have := HJ7.out; have := HJ17.out; have := HJ31.out; first | omega | exact Nat.le_refl _⟩, ⟨by repeat (first | (with_reducible first | exact HB.out | apply below_alloc | apply pw_below_drewN | apply below_drew1) | exact HB.out)⟩⟩
              · rw [if_neg c87] at H
                have c87b0 : (t244 != t240) = false := by simpa using c87
                (try (have c87b1 : decide (t244 = t240) = true := by simpa using c87))
                (try (have c87b2 : (t244 == t240) = true := by simpa using c87))
                clear c87
                by_cases c88 : (t248 != t250) = true
                · rw [if_pos c88] at H
                  have c88b0 : (t248 != t250) = true := c88
                  (try (have c88b1 : decide (t248 = t250) = false := by simpa using c88))
                  (try (have c88b2 : (t248 == t250) = false := by simpa using c88))
                  (try (have c88b3 : ¬ (t248 = t250) := by simpa using c88))
                  clear c88
                  have H' := Aside0.mk H
                  clear H
                  go_wp2
                  go_meet
                  case rel => exact ⟨_, (true), (by first | rfl | (simp; done) | (simp [*]; done)), H', ⟨by have := HJ7.out; have := HJ17.out; have := HJ31.out; first | omega | exact Nat.le_refl _⟩, ⟨by repeat (first | (with_reducible first | exact HB.out | apply below_alloc | apply pw_below_drewN | apply below_drew1) | exact HB.out)⟩⟩
                · rw [if_neg c88] at H
                  have c88b0 : (t248 != t250) = false := by simpa using c88
                  (try (have c88b1 : decide (t248 = t250) = true := by simpa using c88))
                  (try (have c88b2 : (t248 == t250) = true := by simpa using c88))
                  clear c88
                  by_cases c89 : t247.toList = t249.toList
                  · rw [if_pos c89] at H
                    have c89b0 : (t247.toList == t249.toList) = true := beq_iff_eq.mpr c89
                    have c89b1 : (t247.toList != t249.toList) = false := bne_eq_false_iff_eq.mpr c89
                    clear c89
                    by_cases c90 : (t252 != t254) = true
                    · rw [if_pos c90] at H
                      have c90b0 : (t252 != t254) = true := c90
                      (try (have c90b1 : decide (t252 = t254) = false := by simpa using c90))
                      (try (have c90b2 : (t252 == t254) = false := by simpa using c90))
                      (try (have c90b3 : ¬ (t252 = t254) := by simpa using c90))
                      clear c90
                      have H' := Aside0.mk H
                      clear H
                      go_wp2
                      go_meet
                      case rel => exact ⟨_, (true), (by first | rfl | (simp; done) | (simp [*]; done)), H', ⟨by have := HJ7.out; have := HJ17.out; have := HJ31.out; first | omega | exact Nat.le_refl _⟩, ⟨by repeat (first | (with_reducible first | exact HB.out | apply below_alloc | apply pw_below_drewN | apply below_drew1) | exact HB.out)⟩⟩
                    · rw [if_neg c90] at H
                      have c90b0 : (t252 != t254) = false := by simpa using c90
                      (try (have c90b1 : decide (t252 = t254) = true := by simpa using c90))
                      (try (have c90b2 : (t252 == t254) = true := by simpa using c90))
                      clear c90
                      by_cases c91 : t251 = t253
                      · rw [if_pos c91] at H
                        have c91b0 : (t251 == t253) = true := beq_iff_eq.mpr c91
                        have c91b1 : (t251 != t253) = false := bne_eq_false_iff_eq.mpr c91
                        clear c91
                        by_cases c92 : t248 = true
                        · subst c92
                          have H1 : (laws_FnLinesRankedOfAll.j4 kj31 a1 a2 a3 a4 a5 l6 t235 t236 t239 t240 t243 t247 true t251 t252 t252) = some r := by rw [if_pos rfl] at H; exact H
                          clear H
                          have H := H1
                          clear H1
                          have H' := Aside0.mk H
                          clear H
                          go_wp2
                          go_meet
                          case rel => exact ⟨_, (t252), (by first | rfl | (simp; done) | (simp [*]; done)), H', ⟨by have := HJ7.out; have := HJ17.out; have := HJ31.out; first | omega | exact Nat.le_refl _⟩, ⟨by repeat (first | (with_reducible first | exact HB.out | apply below_alloc | apply pw_below_drewN | apply below_drew1) | exact HB.out)⟩⟩
                        · replace c92 := Bool.eq_false_iff.mpr c92
                          subst c92
                          have H1 : (laws_FnLinesRankedOfAll.j4 kj31 a1 a2 a3 a4 a5 l6 t235 t236 t239 t240 t243 t247 false t251 t252 false) = some r := by rw [if_neg (show ¬ (false = true) by decide)] at H; exact H
                          clear H
                          have H := H1
                          clear H1
                          have H' := Aside0.mk H
                          clear H
                          go_wp2
                          go_meet
                          case rel => exact ⟨_, (false), (by first | rfl | (simp; done) | (simp [*]; done)), H', ⟨by have := HJ7.out; have := HJ17.out; have := HJ31.out; first | omega | exact Nat.le_refl _⟩, ⟨by repeat (first | (with_reducible first | exact HB.out | apply below_alloc | apply pw_below_drewN | apply below_drew1) | exact HB.out)⟩⟩
                      · rw [if_neg c91] at H
                        have c91b0 : (t251 == t253) = false := beq_eq_false_iff_ne.mpr c91
                        have c91b1 : (t251 != t253) = true := bne_iff_ne.mpr c91
                        have H' := Aside0.mk H
                        clear H
                        go_wp2
                        go_meet
                        case rel => exact ⟨_, (true), (by first | rfl | (simp; done) | (simp [*]; done)), H', ⟨by have := HJ7.out; have := HJ17.out; have := HJ31.out; first | omega | exact Nat.le_refl _⟩, ⟨by repeat (first | (with_reducible first | exact HB.out | apply below_alloc | apply pw_below_drewN | apply below_drew1) | exact HB.out)⟩⟩
                  · rw [if_neg c89] at H
                    have c89b0 : (t247.toList == t249.toList) = false := beq_eq_false_iff_ne.mpr c89
                    have c89b1 : (t247.toList != t249.toList) = true := bne_iff_ne.mpr c89
                    have H' := Aside0.mk H
                    clear H
                    go_wp2
                    go_meet
                    case rel => exact ⟨_, (true), (by first | rfl | (simp; done) | (simp [*]; done)), H', ⟨by have := HJ7.out; have := HJ17.out; have := HJ31.out; first | omega | exact Nat.le_refl _⟩, ⟨by repeat (first | (with_reducible first | exact HB.out | apply below_alloc | apply pw_below_drewN | apply below_drew1) | exact HB.out)⟩⟩
            · rw [if_neg c86] at H
              have c86b0 : (t243 == t245) = false := beq_eq_false_iff_ne.mpr c86
              have c86b1 : (t243 != t245) = true := bne_iff_ne.mpr c86
              have H' := Aside0.mk H
              clear H
              go_wp2
              go_meet
              case rel => exact ⟨_, (true), (by first | rfl | (simp; done) | (simp [*]; done)), H', ⟨by have := HJ7.out; have := HJ17.out; have := HJ31.out; first | omega | exact Nat.le_refl _⟩, ⟨by repeat (first | (with_reducible first | exact HB.out | apply below_alloc | apply pw_below_drewN | apply below_drew1) | exact HB.out)⟩⟩
        · rw [if_neg c84] at H
          have c84b0 : (t239.toList == t241.toList) = false := beq_eq_false_iff_ne.mpr c84
          have c84b1 : (t239.toList != t241.toList) = true := bne_iff_ne.mpr c84
          have H' := Aside0.mk H
          clear H
          go_wp2
          go_meet
          case rel => exact ⟨_, (true), (by first | rfl | (simp; done) | (simp [*]; done)), H', ⟨by have := HJ7.out; have := HJ17.out; have := HJ31.out; first | omega | exact Nat.le_refl _⟩, ⟨by repeat (first | (with_reducible first | exact HB.out | apply below_alloc | apply pw_below_drewN | apply below_drew1) | exact HB.out)⟩⟩
    · rw [if_neg c82] at H
      have c82b0 : (t235.toList == t237.toList) = false := beq_eq_false_iff_ne.mpr c82
      have c82b1 : (t235.toList != t237.toList) = true := bne_iff_ne.mpr c82
      have H' := Aside0.mk H
      clear H
      go_wp2
      go_meet
      case rel => exact ⟨_, (true), (by first | rfl | (simp; done) | (simp [*]; done)), H', ⟨by have := HJ7.out; have := HJ17.out; have := HJ31.out; first | omega | exact Nat.le_refl _⟩, ⟨by repeat (first | (with_reducible first | exact HB.out | apply below_alloc | apply pw_below_drewN | apply below_drew1) | exact HB.out)⟩⟩

end Go.Proofs.YtgiphajcffambaaDoor.XA
