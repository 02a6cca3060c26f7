/- The Lean functions that the Go functions of this seat compute, each with the proof that the Go function computes it, for every input (laws: FnLinesRankedOfAll). Conditions: none beyond those that each theorem names. Written by a program of this session over the kit's printer. -/
import Derived.Test.YtgiphajcffambaaDoorXA10
import Derived.Laws.Cover1
import Derived.Test.YtgiphajcffambaaDoorXA0
import Derived.Test.YtgiphajcffambaaDoorXA3
import Derived.Test.YtgiphajcffambaaDoorXA4
import Derived.Test.YtgiphajcffambaaDoorXA5
import Derived.Test.YtgiphajcffambaaDoorXA6
import Derived.Test.YtgiphajcffambaaDoorXA7
import Derived.Test.YtgiphajcffambaaDoorXA8
import Derived.Test.YtgiphajcffambaaDoorXA9
namespace Go.Proofs.YtgiphajcffambaaDoor.XA
open Go.RowKit Go.Proofs.YtgiphajcffambaaDoorW.PrintWords Go.Proofs.YtgiphajcffambaaDoorW.PrintLast Go.Proofs.YtgiphajcffambaaDoorW.PrintMore
attribute [local go_sem] max2_int min2_int max_two min_two max_three min_three max_four min_four   -- for this text's walks alone
attribute [local go_sem] Lib.run_min_strs Go.Proofs.YtgiphajcffambaaDoorXW.run_min2_strs Go.Proofs.YtgiphajcffambaaDoorXW.run_int_string
set_option linter.unusedVariables false
set_option linter.unusedSimpArgs false

set_option maxHeartbeats 8000000 in
set_option maxRecDepth 100000 in
def laws_FnLinesRankedOfAll.parts : { p : Prop × Prop × Prop × Prop × Prop // p.1 → p.2.1 → p.2.2.1 → p.2.2.2.1 → p.2.2.2.2 → ∀ (k : Nat) (a0 : ByteArray) (a1 : Int) (a2 : Int) (a3 : Int) (a4 : Int) (a5 : ByteArray) (A6 : Option Addr) (c6 : Nat) (l6 : List (S46)) (r : Bool) (w : World) (hr6 : Kd.C k46 w A6 l6.length l6) (hc6 : l6.length ≤ c6) (h : laws_FnLinesRankedOfAll.f k a0 a1 a2 a3 a4 a5 l6 = some r),
    Calls Tryd.prog 7 #[.string a0, .int .i64 a1, .int .i64 a2, .int .i64 a3, .int .i64 a4, .string a5, .slice A6 l6.length c6] w fun e w' => e = .returned (.bool r) ∧ Below w.heap.size w w' } := by
  refine' ⟨(_, _, _, _, _), fun q1 q2 q3 q4 q5 => ?_⟩
  case refine'_6 =>
    have Q1 := Aside0.mk q1
    clear q1
    have Q2 := Aside0.mk q2
    clear q2
    have Q3 := Aside0.mk q3
    clear q3
    have Q4 := Aside0.mk q4
    clear q4
    have Q5 := Aside0.mk q5
    clear q5
    intro k a0 a1 a2 a3 a4 a5 A6 c6 l6 r w hr6 hc6 h
    have hu46 := Tryd.underlying46
    have HR6 := Aside0.mk hr6
    have HC6 := Aside0.mk hc6
    clear hr6 hc6
    have HB := Aside0.mk (Below.refl w.heap.size w)
    have H : (if (a0.size : Int) > 1048576 then (laws_FnLinesRankedOfAll.j0 k a0 a1 a2 a3 a4 a5 l6 true) else (if (a5.size : Int) > 1048576 then (laws_FnLinesRankedOfAll.j0 k a0 a1 a2 a3 a4 a5 l6 true) else (laws_FnLinesRankedOfAll.j0 k a0 a1 a2 a3 a4 a5 l6 (decide ((l6.length : Int) > 10000))))) = some r := h
    clear h
    have HC8 := Aside0.mk H
    clear H
    go_enter Tryd.func7, Tryd.ntmps7
    go_upto_region 1 with (fail)
    go_cut [90] from 71 to 90 (fun v90 wc => ∃ (kq : Nat) (x90_7 : Bool), v90 = .bool x90_7 ∧ Aside0 (laws_FnLinesRankedOfAll.j0 kq a0 a1 a2 a3 a4 a5 l6 x90_7 = some r) ∧ Aside0 (kq ≤ k) ∧ Aside0 (Below w.heap.size w wc))
    case first =>
      have H := HC8.out
      clear HC8
      by_cases c9 : (a0.size : Int) > 1048576
      · rw [if_pos c9] at H
        have c9b0 : decide (1048576 < (a0.size : Int)) = true := decide_eq_true c9
        have c9b1 : decide (1048576 < a0.size) = true := decide_eq_true (by omega)
        clear c9
        (first | rw [c9b0] | (simp only [i64_w, i32_w]; rw [c9b0]) | skip)
        have H' := Aside0.mk H
        clear H
        go_wp2
        go_meet
        case rel => exact ⟨_, (true), (by first | rfl | (simp; done) | (simp [*]; done)), H', ⟨by first | omega | exact Nat.le_refl _⟩, ⟨by repeat (first | (with_reducible first | exact HB.out | apply below_alloc | apply pw_below_drewN | apply below_drew1) | exact HB.out)⟩⟩
      · rw [if_neg c9] at H
        have c9b0 : decide (1048576 < (a0.size : Int)) = false := decide_eq_false c9
        have c9b1 : decide (1048576 < a0.size) = false := decide_eq_false (by omega)
        clear c9
        (first | rw [c9b0] | (simp only [i64_w, i32_w]; rw [c9b0]) | skip)
        by_cases c10 : (a5.size : Int) > 1048576
        · rw [if_pos c10] at H
          have c10b0 : decide (1048576 < (a5.size : Int)) = true := decide_eq_true c10
          have c10b1 : decide (1048576 < a5.size) = true := decide_eq_true (by omega)
          clear c10
          have H' := Aside0.mk H
          clear H
          go_wp2
          go_meet
          case rel => exact ⟨_, (true), (by first | rfl | (simp; done) | (simp [*]; done)), H', ⟨by first | omega | exact Nat.le_refl _⟩, ⟨by repeat (first | (with_reducible first | exact HB.out | apply below_alloc | apply pw_below_drewN | apply below_drew1) | exact HB.out)⟩⟩
        · rw [if_neg c10] at H
          have c10b0 : decide (1048576 < (a5.size : Int)) = false := decide_eq_false c10
          have c10b1 : decide (1048576 < a5.size) = false := decide_eq_false (by omega)
          clear c10
          have H' := Aside0.mk H
          clear H
          go_wp2
          go_meet
          case rel => exact ⟨_, (decide ((l6.length : Int) > 10000)), (by first | rfl | (simp; done) | (simp [*]; done)), H', ⟨by first | omega | exact Nat.le_refl _⟩, ⟨by repeat (first | (with_reducible first | exact HB.out | apply below_alloc | apply pw_below_drewN | apply below_drew1) | exact HB.out)⟩⟩
    case rest =>
      clear HC8
      try clear c1
      try clear p2
      try clear c6
      try clear c7
      try clear c9
      try clear c9b0
      try clear c9b1
      try clear c10
      try clear c10b0
      try clear c10b1
      obtain ⟨kq, x90_7, rfl, HA, HJ7, HB⟩ := hcut
      cases kq with
      | zero => exact absurd HA.out (by simp [laws_FnLinesRankedOfAll.j0])
      | succ kj7 =>
        have H := HA.out
        clear HA
        simp only [laws_FnLinesRankedOfAll.j0] at H
        by_cases c11 : x90_7 = true
        · subst c11
          have H1 : (some true) = some r := by rw [if_pos rfl] at H; exact H
          clear H
          have H := H1
          clear H1
          obtain rfl := Option.some.inj H
          go_wp2
          go_ret
          exact ⟨by first | rfl | (simp [errW_none, errW_some] <;> rfl) | (simp [*, errW_none, errW_some] <;> rfl), by repeat (first | (with_reducible first | exact HB.out | apply below_alloc | apply pw_below_drewN | apply below_drew1) | exact HB.out)⟩
        · replace c11 := Bool.eq_false_iff.mpr c11
          subst c11
          have H1 : ((impl_RankOfLine.f a0).bind fun bt207 => ((spec_RankOfLine.f kj7 a0).bind fun bt209 => ((impl_CountOf.f a0).bind fun bt211 => ((spec_CountOf.f kj7 a0).bind fun bt215 => ((impl_LastLine.f a0).bind fun bt219 => ((spec_LastLine.f kj7 a0).bind fun bt221 => (if (bt207.2 != bt209.2) = true then (laws_FnLinesRankedOfAll.j1 kj7 a0 a1 a2 a3 a4 a5 l6 bt207.1 bt207.2 bt211.1 bt211.2.1 bt211.2.2.1 bt219.1 true) else (if bt207.1 = bt209.1 then (if (bt211.2.2.2 != bt215.2.2.2) = true then (laws_FnLinesRankedOfAll.j1 kj7 a0 a1 a2 a3 a4 a5 l6 bt207.1 bt207.2 bt211.1 bt211.2.1 bt211.2.2.1 bt219.1 true) else (if bt211.1 = bt215.1 then (if bt211.2.1 = bt215.2.1 then (if bt211.2.2.1 = bt215.2.2.1 then (if (bt219.2 != bt221.2) = true then (laws_FnLinesRankedOfAll.j1 kj7 a0 a1 a2 a3 a4 a5 l6 bt207.1 bt207.2 bt211.1 bt211.2.1 bt211.2.2.1 bt219.1 true) else (if bt219.1.toList = bt221.1.toList then (if (bt211.2.2.2 != bt207.2) = true then (laws_FnLinesRankedOfAll.j1 kj7 a0 a1 a2 a3 a4 a5 l6 bt207.1 bt207.2 bt211.1 bt211.2.1 bt211.2.2.1 bt219.1 true) else (laws_FnLinesRankedOfAll.j1 kj7 a0 a1 a2 a3 a4 a5 l6 bt207.1 bt207.2 bt211.1 bt211.2.1 bt211.2.2.1 bt219.1 (bt219.2 != bt207.2))) else (laws_FnLinesRankedOfAll.j1 kj7 a0 a1 a2 a3 a4 a5 l6 bt207.1 bt207.2 bt211.1 bt211.2.1 bt211.2.2.1 bt219.1 true))) else (laws_FnLinesRankedOfAll.j1 kj7 a0 a1 a2 a3 a4 a5 l6 bt207.1 bt207.2 bt211.1 bt211.2.1 bt211.2.2.1 bt219.1 true)) else (laws_FnLinesRankedOfAll.j1 kj7 a0 a1 a2 a3 a4 a5 l6 bt207.1 bt207.2 bt211.1 bt211.2.1 bt211.2.2.1 bt219.1 true)) else (laws_FnLinesRankedOfAll.j1 kj7 a0 a1 a2 a3 a4 a5 l6 bt207.1 bt207.2 bt211.1 bt211.2.1 bt211.2.2.1 bt219.1 true))) else (laws_FnLinesRankedOfAll.j1 kj7 a0 a1 a2 a3 a4 a5 l6 bt207.1 bt207.2 bt211.1 bt211.2.1 bt211.2.2.1 bt219.1 true))))))))) = some r := by rw [if_neg (show ¬ (false = true) by decide)] at H; exact H
          clear H
          have H := H1
          clear H1
          replace H := Option.bind_eq_some_iff.mp H
          obtain ⟨⟨t207, t208⟩, A120, H⟩ := H
          replace H : ((spec_RankOfLine.f kj7 a0).bind fun bt209 => ((impl_CountOf.f a0).bind fun bt211 => ((spec_CountOf.f kj7 a0).bind fun bt215 => ((impl_LastLine.f a0).bind fun bt219 => ((spec_LastLine.f kj7 a0).bind fun bt221 => (if (t208 != bt209.2) = true then (laws_FnLinesRankedOfAll.j1 kj7 a0 a1 a2 a3 a4 a5 l6 t207 t208 bt211.1 bt211.2.1 bt211.2.2.1 bt219.1 true) else (if t207 = bt209.1 then (if (bt211.2.2.2 != bt215.2.2.2) = true then (laws_FnLinesRankedOfAll.j1 kj7 a0 a1 a2 a3 a4 a5 l6 t207 t208 bt211.1 bt211.2.1 bt211.2.2.1 bt219.1 true) else (if bt211.1 = bt215.1 then (if bt211.2.1 = bt215.2.1 then (if bt211.2.2.1 = bt215.2.2.1 then (if (bt219.2 != bt221.2) = true then (laws_FnLinesRankedOfAll.j1 kj7 a0 a1 a2 a3 a4 a5 l6 t207 t208 bt211.1 bt211.2.1 bt211.2.2.1 bt219.1 true) else (if bt219.1.toList = bt221.1.toList then (if (bt211.2.2.2 != t208) = true then (laws_FnLinesRankedOfAll.j1 kj7 a0 a1 a2 a3 a4 a5 l6 t207 t208 bt211.1 bt211.2.1 bt211.2.2.1 bt219.1 true) else (laws_FnLinesRankedOfAll.j1 kj7 a0 a1 a2 a3 a4 a5 l6 t207 t208 bt211.1 bt211.2.1 bt211.2.2.1 bt219.1 (bt219.2 != t208))) else (laws_FnLinesRankedOfAll.j1 kj7 a0 a1 a2 a3 a4 a5 l6 t207 t208 bt211.1 bt211.2.1 bt211.2.2.1 bt219.1 true))) else (laws_FnLinesRankedOfAll.j1 kj7 a0 a1 a2 a3 a4 a5 l6 t207 t208 bt211.1 bt211.2.1 bt211.2.2.1 bt219.1 true)) else (laws_FnLinesRankedOfAll.j1 kj7 a0 a1 a2 a3 a4 a5 l6 t207 t208 bt211.1 bt211.2.1 bt211.2.2.1 bt219.1 true)) else (laws_FnLinesRankedOfAll.j1 kj7 a0 a1 a2 a3 a4 a5 l6 t207 t208 bt211.1 bt211.2.1 bt211.2.2.1 bt219.1 true))) else (laws_FnLinesRankedOfAll.j1 kj7 a0 a1 a2 a3 a4 a5 l6 t207 t208 bt211.1 bt211.2.1 bt211.2.2.1 bt219.1 true)))))))) = some r := H
          have A12 := Aside0.mk A120
          clear A120
          replace H := Option.bind_eq_some_iff.mp H
          obtain ⟨⟨t209, t210⟩, A130, H⟩ := H
          replace H : ((impl_CountOf.f a0).bind fun bt211 => ((spec_CountOf.f kj7 a0).bind fun bt215 => ((impl_LastLine.f a0).bind fun bt219 => ((spec_LastLine.f kj7 a0).bind fun bt221 => (if (t208 != t210) = true then (laws_FnLinesRankedOfAll.j1 kj7 a0 a1 a2 a3 a4 a5 l6 t207 t208 bt211.1 bt211.2.1 bt211.2.2.1 bt219.1 true) else (if t207 = t209 then (if (bt211.2.2.2 != bt215.2.2.2) = true then (laws_FnLinesRankedOfAll.j1 kj7 a0 a1 a2 a3 a4 a5 l6 t207 t208 bt211.1 bt211.2.1 bt211.2.2.1 bt219.1 true) else (if bt211.1 = bt215.1 then (if bt211.2.1 = bt215.2.1 then (if bt211.2.2.1 = bt215.2.2.1 then (if (bt219.2 != bt221.2) = true then (laws_FnLinesRankedOfAll.j1 kj7 a0 a1 a2 a3 a4 a5 l6 t207 t208 bt211.1 bt211.2.1 bt211.2.2.1 bt219.1 true) else (if bt219.1.toList = bt221.1.toList then (if (bt211.2.2.2 != t208) = true then (laws_FnLinesRankedOfAll.j1 kj7 a0 a1 a2 a3 a4 a5 l6 t207 t208 bt211.1 bt211.2.1 bt211.2.2.1 bt219.1 true) else (laws_FnLinesRankedOfAll.j1 kj7 a0 a1 a2 a3 a4 a5 l6 t207 t208 bt211.1 bt211.2.1 bt211.2.2.1 bt219.1 (bt219.2 != t208))) else (laws_FnLinesRankedOfAll.j1 kj7 a0 a1 a2 a3 a4 a5 l6 t207 t208 bt211.1 bt211.2.1 bt211.2.2.1 bt219.1 true))) else (laws_FnLinesRankedOfAll.j1 kj7 a0 a1 a2 a3 a4 a5 l6 t207 t208 bt211.1 bt211.2.1 bt211.2.2.1 bt219.1 true)) else (laws_FnLinesRankedOfAll.j1 kj7 a0 a1 a2 a3 a4 a5 l6 t207 t208 bt211.1 bt211.2.1 bt211.2.2.1 bt219.1 true)) else (laws_FnLinesRankedOfAll.j1 kj7 a0 a1 a2 a3 a4 a5 l6 t207 t208 bt211.1 bt211.2.1 bt211.2.2.1 bt219.1 true))) else (laws_FnLinesRankedOfAll.j1 kj7 a0 a1 a2 a3 a4 a5 l6 t207 t208 bt211.1 bt211.2.1 bt211.2.2.1 bt219.1 true))))))) = some r := H
          have A13 := Aside0.mk A130
          clear A130
          replace H := Option.bind_eq_some_iff.mp H
          obtain ⟨⟨t211, t212, t213, t214⟩, A140, H⟩ := H
          replace H : ((spec_CountOf.f kj7 a0).bind fun bt215 => ((impl_LastLine.f a0).bind fun bt219 => ((spec_LastLine.f kj7 a0).bind fun bt221 => (if (t208 != t210) = true then (laws_FnLinesRankedOfAll.j1 kj7 a0 a1 a2 a3 a4 a5 l6 t207 t208 t211 t212 t213 bt219.1 true) else (if t207 = t209 then (if (t214 != bt215.2.2.2) = true then (laws_FnLinesRankedOfAll.j1 kj7 a0 a1 a2 a3 a4 a5 l6 t207 t208 t211 t212 t213 bt219.1 true) else (if t211 = bt215.1 then (if t212 = bt215.2.1 then (if t213 = bt215.2.2.1 then (if (bt219.2 != bt221.2) = true then (laws_FnLinesRankedOfAll.j1 kj7 a0 a1 a2 a3 a4 a5 l6 t207 t208 t211 t212 t213 bt219.1 true) else (if bt219.1.toList = bt221.1.toList then (if (t214 != t208) = true then (laws_FnLinesRankedOfAll.j1 kj7 a0 a1 a2 a3 a4 a5 l6 t207 t208 t211 t212 t213 bt219.1 true) else (laws_FnLinesRankedOfAll.j1 kj7 a0 a1 a2 a3 a4 a5 l6 t207 t208 t211 t212 t213 bt219.1 (bt219.2 != t208))) else (laws_FnLinesRankedOfAll.j1 kj7 a0 a1 a2 a3 a4 a5 l6 t207 t208 t211 t212 t213 bt219.1 true))) else (laws_FnLinesRankedOfAll.j1 kj7 a0 a1 a2 a3 a4 a5 l6 t207 t208 t211 t212 t213 bt219.1 true)) else (laws_FnLinesRankedOfAll.j1 kj7 a0 a1 a2 a3 a4 a5 l6 t207 t208 t211 t212 t213 bt219.1 true)) else (laws_FnLinesRankedOfAll.j1 kj7 a0 a1 a2 a3 a4 a5 l6 t207 t208 t211 t212 t213 bt219.1 true))) else (laws_FnLinesRankedOfAll.j1 kj7 a0 a1 a2 a3 a4 a5 l6 t207 t208 t211 t212 t213 bt219.1 true)))))) = some r := H
          have A14 := Aside0.mk A140
          clear A140
          replace H := Option.bind_eq_some_iff.mp H
          obtain ⟨⟨t215, t216, t217, t218⟩, A150, H⟩ := H
          replace H : ((impl_LastLine.f a0).bind fun bt219 => ((spec_LastLine.f kj7 a0).bind fun bt221 => (if (t208 != t210) = true then (laws_FnLinesRankedOfAll.j1 kj7 a0 a1 a2 a3 a4 a5 l6 t207 t208 t211 t212 t213 bt219.1 true) else (if t207 = t209 then (if (t214 != t218) = true then (laws_FnLinesRankedOfAll.j1 kj7 a0 a1 a2 a3 a4 a5 l6 t207 t208 t211 t212 t213 bt219.1 true) else (if t211 = t215 then (if t212 = t216 then (if t213 = t217 then (if (bt219.2 != bt221.2) = true then (laws_FnLinesRankedOfAll.j1 kj7 a0 a1 a2 a3 a4 a5 l6 t207 t208 t211 t212 t213 bt219.1 true) else (if bt219.1.toList = bt221.1.toList then (if (t214 != t208) = true then (laws_FnLinesRankedOfAll.j1 kj7 a0 a1 a2 a3 a4 a5 l6 t207 t208 t211 t212 t213 bt219.1 true) else (laws_FnLinesRankedOfAll.j1 kj7 a0 a1 a2 a3 a4 a5 l6 t207 t208 t211 t212 t213 bt219.1 (bt219.2 != t208))) else (laws_FnLinesRankedOfAll.j1 kj7 a0 a1 a2 a3 a4 a5 l6 t207 t208 t211 t212 t213 bt219.1 true))) else (laws_FnLinesRankedOfAll.j1 kj7 a0 a1 a2 a3 a4 a5 l6 t207 t208 t211 t212 t213 bt219.1 true)) else (laws_FnLinesRankedOfAll.j1 kj7 a0 a1 a2 a3 a4 a5 l6 t207 t208 t211 t212 t213 bt219.1 true)) else (laws_FnLinesRankedOfAll.j1 kj7 a0 a1 a2 a3 a4 a5 l6 t207 t208 t211 t212 t213 bt219.1 true))) else (laws_FnLinesRankedOfAll.j1 kj7 a0 a1 a2 a3 a4 a5 l6 t207 t208 t211 t212 t213 bt219.1 true))))) = some r := H
          have A15 := Aside0.mk A150
          clear A150
          replace H := Option.bind_eq_some_iff.mp H
          obtain ⟨⟨t219, t220⟩, A160, H⟩ := H
          replace H : ((spec_LastLine.f kj7 a0).bind fun bt221 => (if (t208 != t210) = true then (laws_FnLinesRankedOfAll.j1 kj7 a0 a1 a2 a3 a4 a5 l6 t207 t208 t211 t212 t213 t219 true) else (if t207 = t209 then (if (t214 != t218) = true then (laws_FnLinesRankedOfAll.j1 kj7 a0 a1 a2 a3 a4 a5 l6 t207 t208 t211 t212 t213 t219 true) else (if t211 = t215 then (if t212 = t216 then (if t213 = t217 then (if (t220 != bt221.2) = true then (laws_FnLinesRankedOfAll.j1 kj7 a0 a1 a2 a3 a4 a5 l6 t207 t208 t211 t212 t213 t219 true) else (if t219.toList = bt221.1.toList then (if (t214 != t208) = true then (laws_FnLinesRankedOfAll.j1 kj7 a0 a1 a2 a3 a4 a5 l6 t207 t208 t211 t212 t213 t219 true) else (laws_FnLinesRankedOfAll.j1 kj7 a0 a1 a2 a3 a4 a5 l6 t207 t208 t211 t212 t213 t219 (t220 != t208))) else (laws_FnLinesRankedOfAll.j1 kj7 a0 a1 a2 a3 a4 a5 l6 t207 t208 t211 t212 t213 t219 true))) else (laws_FnLinesRankedOfAll.j1 kj7 a0 a1 a2 a3 a4 a5 l6 t207 t208 t211 t212 t213 t219 true)) else (laws_FnLinesRankedOfAll.j1 kj7 a0 a1 a2 a3 a4 a5 l6 t207 t208 t211 t212 t213 t219 true)) else (laws_FnLinesRankedOfAll.j1 kj7 a0 a1 a2 a3 a4 a5 l6 t207 t208 t211 t212 t213 t219 true))) else (laws_FnLinesRankedOfAll.j1 kj7 a0 a1 a2 a3 a4 a5 l6 t207 t208 t211 t212 t213 t219 true)))) = some r := H
          have A16 := Aside0.mk A160
          clear A160
          replace H := Option.bind_eq_some_iff.mp H
          obtain ⟨⟨t221, t222⟩, A170, H⟩ := H
          replace H : (if (t208 != t210) = true then (laws_FnLinesRankedOfAll.j1 kj7 a0 a1 a2 a3 a4 a5 l6 t207 t208 t211 t212 t213 t219 true) else (if t207 = t209 then (if (t214 != t218) = true then (laws_FnLinesRankedOfAll.j1 kj7 a0 a1 a2 a3 a4 a5 l6 t207 t208 t211 t212 t213 t219 true) else (if t211 = t215 then (if t212 = t216 then (if t213 = t217 then (if (t220 != t222) = true then (laws_FnLinesRankedOfAll.j1 kj7 a0 a1 a2 a3 a4 a5 l6 t207 t208 t211 t212 t213 t219 true) else (if t219.toList = t221.toList then (if (t214 != t208) = true then (laws_FnLinesRankedOfAll.j1 kj7 a0 a1 a2 a3 a4 a5 l6 t207 t208 t211 t212 t213 t219 true) else (laws_FnLinesRankedOfAll.j1 kj7 a0 a1 a2 a3 a4 a5 l6 t207 t208 t211 t212 t213 t219 (t220 != t208))) else (laws_FnLinesRankedOfAll.j1 kj7 a0 a1 a2 a3 a4 a5 l6 t207 t208 t211 t212 t213 t219 true))) else (laws_FnLinesRankedOfAll.j1 kj7 a0 a1 a2 a3 a4 a5 l6 t207 t208 t211 t212 t213 t219 true)) else (laws_FnLinesRankedOfAll.j1 kj7 a0 a1 a2 a3 a4 a5 l6 t207 t208 t211 t212 t213 t219 true)) else (laws_FnLinesRankedOfAll.j1 kj7 a0 a1 a2 a3 a4 a5 l6 t207 t208 t211 t212 t213 t219 true))) else (laws_FnLinesRankedOfAll.j1 kj7 a0 a1 a2 a3 a4 a5 l6 t207 t208 t211 t212 t213 t219 true))) = some r := H
          have A17 := Aside0.mk A170
          clear A170
          have HC18 := Aside0.mk H
          clear H
          go_upto_region 9 with (first | ((with_reducible refine gate_callee (f := 22) rfl ?_); refine goesL_ (some 93) rfl rfl Tryd.func22 (by kernel_rfl) rfl #[.string a0] rfl (by (try simp only [List.map_toArray, List.map_cons, List.map_nil]); first | done | rfl | (simp only [List.length_drop, List.length_take]; rfl)) ?_; (with_reducible refine (impl_RankOfLine.calls a0 t207 t208 _ A12.out).mono ?_); rintro e w19 ⟨rfl, hb⟩; refine ⟨_, rfl, ?_⟩; have n0_ := Aside0.mk (below_step (by repeat (first | (with_reducible first | exact HB.out | apply below_alloc | apply pw_below_drewN | apply below_drew1) | exact HB.out)) hb); clear HB; have HB := n0_; clear n0_; (try clear hb); (try clear hb2); (try clear hk); (try clear hi)) | ((with_reducible refine gate_callee (f := 23) rfl ?_); refine goesL_ (some 98) rfl rfl Tryd.func23 (by kernel_rfl) rfl #[.string a0] rfl (by (try simp only [List.map_toArray, List.map_cons, List.map_nil]); first | done | rfl | (simp only [List.length_drop, List.length_take]; rfl)) ?_; (with_reducible refine (spec_RankOfLine.calls kj7 a0 t209 t210 _ A13.out).mono ?_); rintro e w' ⟨rfl, ⟨nd, rfl⟩⟩; refine ⟨_, rfl, ?_⟩) | ((with_reducible refine gate_callee (f := 24) rfl ?_); refine goesL_ (some 103) rfl rfl Tryd.func24 (by kernel_rfl) rfl #[.string a0] rfl (by (try simp only [List.map_toArray, List.map_cons, List.map_nil]); first | done | rfl | (simp only [List.length_drop, List.length_take]; rfl)) ?_; (with_reducible refine (impl_CountOf.calls a0 t211 t212 t213 t214 _ A14.out).mono ?_); rintro e w20 ⟨rfl, hb⟩; refine ⟨_, rfl, ?_⟩; have n0_ := Aside0.mk (below_step (by repeat (first | (with_reducible first | exact HB.out | apply below_alloc | apply pw_below_drewN | apply below_drew1) | exact HB.out)) hb); clear HB; have HB := n0_; clear n0_; (try clear hb); (try clear hb2); (try clear hk); (try clear hi)) | ((with_reducible refine gate_callee (f := 25) rfl ?_); refine goesL_ (some 110) rfl rfl Tryd.func25 (by kernel_rfl) rfl #[.string a0] rfl (by (try simp only [List.map_toArray, List.map_cons, List.map_nil]); first | done | rfl | (simp only [List.length_drop, List.length_take]; rfl)) ?_; (with_reducible refine (spec_CountOf.calls kj7 a0 t215 t216 t217 t218 _ A15.out).mono ?_); rintro e w' ⟨rfl, ⟨nd, rfl⟩⟩; refine ⟨_, rfl, ?_⟩) | ((with_reducible refine gate_callee (f := 26) rfl ?_); refine goesL_ (some 117) rfl rfl Tryd.func26 (by kernel_rfl) rfl #[.string a0] rfl (by (try simp only [List.map_toArray, List.map_cons, List.map_nil]); first | done | rfl | (simp only [List.length_drop, List.length_take]; rfl)) ?_; (with_reducible refine (impl_LastLine.calls a0 t219 t220 _ A16.out).mono ?_); rintro e w21 ⟨rfl, hb⟩; refine ⟨_, rfl, ?_⟩; have n0_ := Aside0.mk (below_step (by repeat (first | (with_reducible first | exact HB.out | apply below_alloc | apply pw_below_drewN | apply below_drew1) | exact HB.out)) hb); clear HB; have HB := n0_; clear n0_; (try clear hb); (try clear hb2); (try clear hk); (try clear hi)) | ((with_reducible refine gate_callee (f := 27) rfl ?_); refine goesL_ (some 122) rfl rfl Tryd.func27 (by kernel_rfl) rfl #[.string a0] rfl (by (try simp only [List.map_toArray, List.map_cons, List.map_nil]); first | done | rfl | (simp only [List.length_drop, List.length_take]; rfl)) ?_; (with_reducible refine (spec_LastLine.calls kj7 a0 t221 t222 _ A17.out).mono ?_); rintro e w' ⟨rfl, ⟨nd, rfl⟩⟩; refine ⟨_, rfl, ?_⟩))
          (try simp only [Act.put, List.setIfInBounds_toArray, List.set_cons_zero, List.set_cons_succ])
          go_cut [172] from 91 to 172 (fun v172 wc => ∃ (kq : Nat) (x172_17 : Bool), v172 = .bool x172_17 ∧ Aside0 (laws_FnLinesRankedOfAll.j1 kq a0 a1 a2 a3 a4 a5 l6 t207 t208 t211 t212 t213 t219 x172_17 = some r) ∧ Aside0 (kq ≤ kj7) ∧ Aside0 (Below w.heap.size w wc))
          case first =>
            rename_i in1 in2 in3 in4 in5 in6 in7 in8 in9 in10 in11 in12
            revert k a0 a1 a2 a3 a4 a5 A6 c6 l6 r w hu46 HR6 HC6 in1 in2 wc u71 u72 u73 u74 u75 u76 u77 u78 u79 u80 u81 u82 u83 u84 u85 u86 u87 u88 u89 kj7 HJ7 t207 t208 A12 t209 t210 A13 t211 t212 t213 t214 A14 t215 t216 t217 t218 A15 t219 t220 A16 t221 t222 A17 HC18 w19 in3 w20 in4 w21 HB nd in5 in6 in7 in8 in9 in10 in11 in12
            exact Q1.out
          case rest =>
            clear HC18
            try clear c1
            try clear c2
            try clear p2
            try clear c3
            try clear c6
            try clear c7
            try clear c9
            try clear c9b0
            try clear c9b1
            try clear c10
            try clear c10b0
            try clear c10b1
            try clear c11
            try clear c22
            try clear c22b0
            try clear c22b1
            try clear c22b2
            try clear c23
            try clear c23b0
            try clear c23b1
            try clear c24
            try clear c24b0
            try clear c24b1
            try clear c24b2
            try clear c25
            try clear c25b0
            try clear c25b1
            try clear c26
            try clear c26b0
            try clear c26b1
            try clear c27
            try clear c27b0
            try clear c27b1
            try clear c28
            try clear c28b0
            try clear c28b1
            try clear c28b2
            try clear c29
            try clear c29b0
            try clear c29b1
            try clear c30
            try clear c30b0
            try clear c30b1
            try clear c30b2
            try clear p2
            obtain ⟨kq, x172_17, rfl, HA, HJ17, HB⟩ := hcut
            cases kq with
            | zero => exact absurd HA.out (by simp [laws_FnLinesRankedOfAll.j1])
            | succ kj17 =>
              have H := HA.out
              clear HA
              simp only [laws_FnLinesRankedOfAll.j1] at H
              by_cases c31 : x172_17 = true
              · subst c31
                have H1 : (some false) = some r := by rw [if_pos rfl] at H; exact H
                clear H
                have H := H1
                clear H1
                obtain rfl := Option.some.inj H
                go_wp2
                go_ret
                exact ⟨by first | rfl | (simp [errW_none, errW_some] <;> rfl) | (simp [*, errW_none, errW_some] <;> rfl), by repeat (first | (with_reducible first | exact HB.out | apply below_alloc | apply pw_below_drewN | apply below_drew1) | exact HB.out)⟩
              · replace c31 := Bool.eq_false_iff.mpr c31
                subst c31
                have H1 : (if t208 = true then ((impl_CountLines.f kj17 t211 t212 t213).bind fun bt223 => ((impl_LineOfRank.f t211 t212 t213 t207).bind fun bt225 => ((impl_WayToGo.f kj17 t219).bind fun bt227 => ((impl_CountOf.f t219).bind fun bt229 => (if bt223.2 = true then (if t207 < 0 then (laws_FnLinesRankedOfAll.j2 kj17 a0 a1 a2 a3 a4 a5 l6 t207 t211 t212 t213 bt223.1 true) else (if t207 ≥ bt223.1 then (laws_FnLinesRankedOfAll.j2 kj17 a0 a1 a2 a3 a4 a5 l6 t207 t211 t212 t213 bt223.1 true) else (if bt225.2 = true then (if bt225.1.toList = a0.toList then (if (wrap64 ((wrap64 (t211 + t212)) + t213)) = (a0.size : Int) then (if bt227.2 = true then (if bt227.1 = 0 then (if bt229.2.2.2 = true then (if bt229.1 = t211 then (if bt229.2.1 = t212 then (laws_FnLinesRankedOfAll.j2 kj17 a0 a1 a2 a3 a4 a5 l6 t207 t211 t212 t213 bt223.1 (bt229.2.2.1 != t213)) else (laws_FnLinesRankedOfAll.j2 kj17 a0 a1 a2 a3 a4 a5 l6 t207 t211 t212 t213 bt223.1 true)) else (laws_FnLinesRankedOfAll.j2 kj17 a0 a1 a2 a3 a4 a5 l6 t207 t211 t212 t213 bt223.1 true)) else (laws_FnLinesRankedOfAll.j2 kj17 a0 a1 a2 a3 a4 a5 l6 t207 t211 t212 t213 bt223.1 true)) else (laws_FnLinesRankedOfAll.j2 kj17 a0 a1 a2 a3 a4 a5 l6 t207 t211 t212 t213 bt223.1 true)) else (laws_FnLinesRankedOfAll.j2 kj17 a0 a1 a2 a3 a4 a5 l6 t207 t211 t212 t213 bt223.1 true)) else (laws_FnLinesRankedOfAll.j2 kj17 a0 a1 a2 a3 a4 a5 l6 t207 t211 t212 t213 bt223.1 true)) else (laws_FnLinesRankedOfAll.j2 kj17 a0 a1 a2 a3 a4 a5 l6 t207 t211 t212 t213 bt223.1 true)) else (laws_FnLinesRankedOfAll.j2 kj17 a0 a1 a2 a3 a4 a5 l6 t207 t211 t212 t213 bt223.1 true)))) else (laws_FnLinesRankedOfAll.j2 kj17 a0 a1 a2 a3 a4 a5 l6 t207 t211 t212 t213 bt223.1 true)))))) else (laws_FnLinesRankedOfAll.j3 kj17 a1 a2 a3 a4 a5 l6)) = some r := by rw [if_neg (show ¬ (false = true) by decide)] at H; exact H
                clear H
                have H := H1
                clear H1
                have HC32 := Aside0.mk H
                clear H
                go_upto_if 173 with (fail)
                go_cut [] from 173 to 173 (fun wc => ∃ (kq : Nat), Aside0 (laws_FnLinesRankedOfAll.j3 kq a1 a2 a3 a4 a5 l6 = some r) ∧ Aside0 (kq ≤ kj17) ∧ Aside0 (Below w.heap.size w wc))
                case first =>
                  rename_i in1 in2 in3 in4 in5 in6 in7 in8 in9 in10 in11 in12
                  revert k a0 a1 a2 a3 a4 a5 A6 c6 l6 r w hu46 HR6 HC6 in1 in2 in3 u71 u72 u73 u74 u75 u76 u77 u78 u79 u80 u81 u82 u83 u84 u85 u86 u87 u88 u89 kj7 HJ7 t207 t208 A12 t209 t210 A13 t211 t212 t213 t214 A14 t215 t216 t217 t218 A15 t219 t220 A16 t221 t222 A17 w19 in4 w20 in5 w21 in6 nd wc u91 u92 u93 u94 u95 u96 u97 u98 u99 u100 u101 u102 u103 u104 u105 u106 u107 u108 u109 u110 u111 u112 u113 u114 u115 u116 u117 u118 u119 u120 u121 u122 u123 u124 u125 u126 u127 u128 u129 u130 u131 u132 u133 u134 u135 u136 u137 u138 u139 u140 u141 u142 u143 u144 u145 u146 u147 u148 u149 u150 u151 u152 u153 u154 u155 u156 u157 u158 u159 u160 u161 u162 u163 u164 u165 u166 u167 u168 u169 u170 u171 HB kj17 HJ17 HC32 in7 in8 in9 in10 in11 in12
                  exact Q2.out
                case rest =>
                  clear HC32
                  try clear c1
                  try clear c2
                  try clear p2
                  try clear c3
                  try clear c4
                  try clear c5
                  try clear c6
                  try clear p6
                  try clear c7
                  try clear c9
                  try clear c9b0
                  try clear c9b1
                  try clear c10
                  try clear c10b0
                  try clear c10b1
                  try clear c11
                  try clear c22
                  try clear c22b0
                  try clear c22b1
                  try clear c22b2
                  try clear c23
                  try clear c23b0
                  try clear c23b1
                  try clear c24
                  try clear c24b0
                  try clear c24b1
                  try clear c24b2
                  try clear c25
                  try clear c25b0
                  try clear c25b1
                  try clear c26
                  try clear c26b0
                  try clear c26b1
                  try clear c27
                  try clear c27b0
                  try clear c27b1
                  try clear c28
                  try clear c28b0
                  try clear c28b1
                  try clear c28b2
                  try clear c29
                  try clear c29b0
                  try clear c29b1
                  try clear c30
                  try clear c30b0
                  try clear c30b1
                  try clear c30b2
                  try clear c31
                  try clear c33
                  try clear c42
                  try clear c43
                  try clear c43b0
                  try clear c44
                  try clear c44b0
                  try clear c45
                  try clear c46
                  try clear c46b0
                  try clear c46b1
                  try clear c47
                  try clear c47b0
                  try clear c47b1
                  try clear c48
                  try clear c49
                  try clear c49b0
                  try clear c49b1
                  try clear c50
                  try clear c51
                  try clear c51b0
                  try clear c51b1
                  try clear c52
                  try clear c52b0
                  try clear c52b1
                  try clear c53
                  try clear c54
                  try clear c54b0
                  try clear c56
                  try clear c57
                  try clear c57b0
                  try clear p2
                  try clear p6
                  obtain ⟨kq, HA, HJ31, HB⟩ := hcut
                  cases kq with
                  | zero => exact absurd HA.out (by simp [laws_FnLinesRankedOfAll.j3])
                  | succ kj31 =>
                    have H := HA.out
                    clear HA
                    simp only [laws_FnLinesRankedOfAll.j3] at H
                    replace H := Option.bind_eq_some_iff.mp H
                    obtain ⟨⟨t235, t236⟩, A610, H⟩ := H
                    replace H : ((spec_LineOfRank.f kj31 a1 a2 a3 a4).bind fun bt237 => ((impl_FirstLine.f a1 a2 a3).bind fun bt239 => ((spec_FirstLine.f kj31 a1 a2 a3).bind fun bt241 => ((impl_CountLines.f kj31 a1 a2 a3).bind fun bt243 => ((spec_CountLines.f kj31 a1 a2 a3).bind fun bt245 => ((impl_PlayMoves.f a5 l6).bind fun bt247 => ((spec_PlayMoves.f kj31 a5 l6).bind fun bt249 => ((impl_MoveThatFails.f a5 l6).bind fun bt251 => ((spec_MoveThatFails.f kj31 a5 l6).bind fun bt253 => (if (t236 != bt237.2) = true then (laws_FnLinesRankedOfAll.j4 kj31 a1 a2 a3 a4 a5 l6 t235 t236 bt239.1 bt239.2 bt243.1 bt247.1 bt247.2 bt251.1 bt251.2 true) else (if t235.toList = bt237.1.toList then (if (bt239.2 != bt241.2) = true then (laws_FnLinesRankedOfAll.j4 kj31 a1 a2 a3 a4 a5 l6 t235 t236 bt239.1 bt239.2 bt243.1 bt247.1 bt247.2 bt251.1 bt251.2 true) else (if bt239.1.toList = bt241.1.toList then (if (bt243.2 != bt245.2) = true then (laws_FnLinesRankedOfAll.j4 kj31 a1 a2 a3 a4 a5 l6 t235 t236 bt239.1 bt239.2 bt243.1 bt247.1 bt247.2 bt251.1 bt251.2 true) else (if bt243.1 = bt245.1 then (if (bt243.2 != bt239.2) = true then (laws_FnLinesRankedOfAll.j4 kj31 a1 a2 a3 a4 a5 l6 t235 t236 bt239.1 bt239.2 bt243.1 bt247.1 bt247.2 bt251.1 bt251.2 true) else (if (bt247.2 != bt249.2) = true then (laws_FnLinesRankedOfAll.j4 kj31 a1 a2 a3 a4 a5 l6 t235 t236 bt239.1 bt239.2 bt243.1 bt247.1 bt247.2 bt251.1 bt251.2 true) else (if bt247.1.toList = bt249.1.toList then (if (bt251.2 != bt253.2) = true then (laws_FnLinesRankedOfAll.j4 kj31 a1 a2 a3 a4 a5 l6 t235 t236 bt239.1 bt239.2 bt243.1 bt247.1 bt247.2 bt251.1 bt251.2 true) else (if bt251.1 = bt253.1 then (if bt247.2 = true then (laws_FnLinesRankedOfAll.j4 kj31 a1 a2 a3 a4 a5 l6 t235 t236 bt239.1 bt239.2 bt243.1 bt247.1 bt247.2 bt251.1 bt251.2 bt251.2) else (laws_FnLinesRankedOfAll.j4 kj31 a1 a2 a3 a4 a5 l6 t235 t236 bt239.1 bt239.2 bt243.1 bt247.1 bt247.2 bt251.1 bt251.2 false)) else (laws_FnLinesRankedOfAll.j4 kj31 a1 a2 a3 a4 a5 l6 t235 t236 bt239.1 bt239.2 bt243.1 bt247.1 bt247.2 bt251.1 bt251.2 true))) else (laws_FnLinesRankedOfAll.j4 kj31 a1 a2 a3 a4 a5 l6 t235 t236 bt239.1 bt239.2 bt243.1 bt247.1 bt247.2 bt251.1 bt251.2 true)))) else (laws_FnLinesRankedOfAll.j4 kj31 a1 a2 a3 a4 a5 l6 t235 t236 bt239.1 bt239.2 bt243.1 bt247.1 bt247.2 bt251.1 bt251.2 true))) else (laws_FnLinesRankedOfAll.j4 kj31 a1 a2 a3 a4 a5 l6 t235 t236 bt239.1 bt239.2 bt243.1 bt247.1 bt247.2 bt251.1 bt251.2 true))) else (laws_FnLinesRankedOfAll.j4 kj31 a1 a2 a3 a4 a5 l6 t235 t236 bt239.1 bt239.2 bt243.1 bt247.1 bt247.2 bt251.1 bt251.2 true)))))))))))) = some r := H
                    have A61 := Aside0.mk A610
                    clear A610
                    replace H := Option.bind_eq_some_iff.mp H
                    obtain ⟨⟨t237, t238⟩, A620, H⟩ := H
                    replace H : ((impl_FirstLine.f a1 a2 a3).bind fun bt239 => ((spec_FirstLine.f kj31 a1 a2 a3).bind fun bt241 => ((impl_CountLines.f kj31 a1 a2 a3).bind fun bt243 => ((spec_CountLines.f kj31 a1 a2 a3).bind fun bt245 => ((impl_PlayMoves.f a5 l6).bind fun bt247 => ((spec_PlayMoves.f kj31 a5 l6).bind fun bt249 => ((impl_MoveThatFails.f a5 l6).bind fun bt251 => ((spec_MoveThatFails.f kj31 a5 l6).bind fun bt253 => (if (t236 != t238) = true then (laws_FnLinesRankedOfAll.j4 kj31 a1 a2 a3 a4 a5 l6 t235 t236 bt239.1 bt239.2 bt243.1 bt247.1 bt247.2 bt251.1 bt251.2 true) else (if t235.toList = t237.toList then (if (bt239.2 != bt241.2) = true then (laws_FnLinesRankedOfAll.j4 kj31 a1 a2 a3 a4 a5 l6 t235 t236 bt239.1 bt239.2 bt243.1 bt247.1 bt247.2 bt251.1 bt251.2 true) else (if bt239.1.toList = bt241.1.toList then (if (bt243.2 != bt245.2) = true then (laws_FnLinesRankedOfAll.j4 kj31 a1 a2 a3 a4 a5 l6 t235 t236 bt239.1 bt239.2 bt243.1 bt247.1 bt247.2 bt251.1 bt251.2 true) else (if bt243.1 = bt245.1 then (if (bt243.2 != bt239.2) = true then (laws_FnLinesRankedOfAll.j4 kj31 a1 a2 a3 a4 a5 l6 t235 t236 bt239.1 bt239.2 bt243.1 bt247.1 bt247.2 bt251.1 bt251.2 true) else (if (bt247.2 != bt249.2) = true then (laws_FnLinesRankedOfAll.j4 kj31 a1 a2 a3 a4 a5 l6 t235 t236 bt239.1 bt239.2 bt243.1 bt247.1 bt247.2 bt251.1 bt251.2 true) else (if bt247.1.toList = bt249.1.toList then (if (bt251.2 != bt253.2) = true then (laws_FnLinesRankedOfAll.j4 kj31 a1 a2 a3 a4 a5 l6 t235 t236 bt239.1 bt239.2 bt243.1 bt247.1 bt247.2 bt251.1 bt251.2 true) else (if bt251.1 = bt253.1 then (if bt247.2 = true then (laws_FnLinesRankedOfAll.j4 kj31 a1 a2 a3 a4 a5 l6 t235 t236 bt239.1 bt239.2 bt243.1 bt247.1 bt247.2 bt251.1 bt251.2 bt251.2) else (laws_FnLinesRankedOfAll.j4 kj31 a1 a2 a3 a4 a5 l6 t235 t236 bt239.1 bt239.2 bt243.1 bt247.1 bt247.2 bt251.1 bt251.2 false)) else (laws_FnLinesRankedOfAll.j4 kj31 a1 a2 a3 a4 a5 l6 t235 t236 bt239.1 bt239.2 bt243.1 bt247.1 bt247.2 bt251.1 bt251.2 true))) else (laws_FnLinesRankedOfAll.j4 kj31 a1 a2 a3 a4 a5 l6 t235 t236 bt239.1 bt239.2 bt243.1 bt247.1 bt247.2 bt251.1 bt251.2 true)))) else (laws_FnLinesRankedOfAll.j4 kj31 a1 a2 a3 a4 a5 l6 t235 t236 bt239.1 bt239.2 bt243.1 bt247.1 bt247.2 bt251.1 bt251.2 true))) else (laws_FnLinesRankedOfAll.j4 kj31 a1 a2 a3 a4 a5 l6 t235 t236 bt239.1 bt239.2 bt243.1 bt247.1 bt247.2 bt251.1 bt251.2 true))) else (laws_FnLinesRankedOfAll.j4 kj31 a1 a2 a3 a4 a5 l6 t235 t236 bt239.1 bt239.2 bt243.1 bt247.1 bt247.2 bt251.1 bt251.2 true))))))))))) = some r := H
                    have A62 := Aside0.mk A620
                    clear A620
                    replace H := Option.bind_eq_some_iff.mp H
                    obtain ⟨⟨t239, t240⟩, A630, H⟩ := H
                    replace H : ((spec_FirstLine.f kj31 a1 a2 a3).bind fun bt241 => ((impl_CountLines.f kj31 a1 a2 a3).bind fun bt243 => ((spec_CountLines.f kj31 a1 a2 a3).bind fun bt245 => ((impl_PlayMoves.f a5 l6).bind fun bt247 => ((spec_PlayMoves.f kj31 a5 l6).bind fun bt249 => ((impl_MoveThatFails.f a5 l6).bind fun bt251 => ((spec_MoveThatFails.f kj31 a5 l6).bind fun bt253 => (if (t236 != t238) = true then (laws_FnLinesRankedOfAll.j4 kj31 a1 a2 a3 a4 a5 l6 t235 t236 t239 t240 bt243.1 bt247.1 bt247.2 bt251.1 bt251.2 true) else (if t235.toList = t237.toList then (if (t240 != bt241.2) = true then (laws_FnLinesRankedOfAll.j4 kj31 a1 a2 a3 a4 a5 l6 t235 t236 t239 t240 bt243.1 bt247.1 bt247.2 bt251.1 bt251.2 true) else (if t239.toList = bt241.1.toList then (if (bt243.2 != bt245.2) = true then (laws_FnLinesRankedOfAll.j4 kj31 a1 a2 a3 a4 a5 l6 t235 t236 t239 t240 bt243.1 bt247.1 bt247.2 bt251.1 bt251.2 true) else (if bt243.1 = bt245.1 then (if (bt243.2 != t240) = true then (laws_FnLinesRankedOfAll.j4 kj31 a1 a2 a3 a4 a5 l6 t235 t236 t239 t240 bt243.1 bt247.1 bt247.2 bt251.1 bt251.2 true) else (if (bt247.2 != bt249.2) = true then (laws_FnLinesRankedOfAll.j4 kj31 a1 a2 a3 a4 a5 l6 t235 t236 t239 t240 bt243.1 bt247.1 bt247.2 bt251.1 bt251.2 true) else (if bt247.1.toList = bt249.1.toList then (if (bt251.2 != bt253.2) = true then (laws_FnLinesRankedOfAll.j4 kj31 a1 a2 a3 a4 a5 l6 t235 t236 t239 t240 bt243.1 bt247.1 bt247.2 bt251.1 bt251.2 true) else (if bt251.1 = bt253.1 then (if bt247.2 = true then (laws_FnLinesRankedOfAll.j4 kj31 a1 a2 a3 a4 a5 l6 t235 t236 t239 t240 bt243.1 bt247.1 bt247.2 bt251.1 bt251.2 bt251.2) else (laws_FnLinesRankedOfAll.j4 kj31 a1 a2 a3 a4 a5 l6 t235 t236 t239 t240 bt243.1 bt247.1 bt247.2 bt251.1 bt251.2 false)) else (laws_FnLinesRankedOfAll.j4 kj31 a1 a2 a3 a4 a5 l6 t235 t236 t239 t240 bt243.1 bt247.1 bt247.2 bt251.1 bt251.2 true))) else (laws_FnLinesRankedOfAll.j4 kj31 a1 a2 a3 a4 a5 l6 t235 t236 t239 t240 bt243.1 bt247.1 bt247.2 bt251.1 bt251.2 true)))) else (laws_FnLinesRankedOfAll.j4 kj31 a1 a2 a3 a4 a5 l6 t235 t236 t239 t240 bt243.1 bt247.1 bt247.2 bt251.1 bt251.2 true))) else (laws_FnLinesRankedOfAll.j4 kj31 a1 a2 a3 a4 a5 l6 t235 t236 t239 t240 bt243.1 bt247.1 bt247.2 bt251.1 bt251.2 true))) else (laws_FnLinesRankedOfAll.j4 kj31 a1 a2 a3 a4 a5 l6 t235 t236 t239 t240 bt243.1 bt247.1 bt247.2 bt251.1 bt251.2 true)))))))))) = some r := H
                    have A63 := Aside0.mk A630
                    clear A630
                    replace H := Option.bind_eq_some_iff.mp H
                    obtain ⟨⟨t241, t242⟩, A640, H⟩ := H
                    replace H : ((impl_CountLines.f kj31 a1 a2 a3).bind fun bt243 => ((spec_CountLines.f kj31 a1 a2 a3).bind fun bt245 => ((impl_PlayMoves.f a5 l6).bind fun bt247 => ((spec_PlayMoves.f kj31 a5 l6).bind fun bt249 => ((impl_MoveThatFails.f a5 l6).bind fun bt251 => ((spec_MoveThatFails.f kj31 a5 l6).bind fun bt253 => (if (t236 != t238) = true then (laws_FnLinesRankedOfAll.j4 kj31 a1 a2 a3 a4 a5 l6 t235 t236 t239 t240 bt243.1 bt247.1 bt247.2 bt251.1 bt251.2 true) else (if t235.toList = t237.toList then (if (t240 != t242) = true then (laws_FnLinesRankedOfAll.j4 kj31 a1 a2 a3 a4 a5 l6 t235 t236 t239 t240 bt243.1 bt247.1 bt247.2 bt251.1 bt251.2 true) else (if t239.toList = t241.toList then (if (bt243.2 != bt245.2) = true then (laws_FnLinesRankedOfAll.j4 kj31 a1 a2 a3 a4 a5 l6 t235 t236 t239 t240 bt243.1 bt247.1 bt247.2 bt251.1 bt251.2 true) else (if bt243.1 = bt245.1 then (if (bt243.2 != t240) = true then (laws_FnLinesRankedOfAll.j4 kj31 a1 a2 a3 a4 a5 l6 t235 t236 t239 t240 bt243.1 bt247.1 bt247.2 bt251.1 bt251.2 true) else (if (bt247.2 != bt249.2) = true then (laws_FnLinesRankedOfAll.j4 kj31 a1 a2 a3 a4 a5 l6 t235 t236 t239 t240 bt243.1 bt247.1 bt247.2 bt251.1 bt251.2 true) else (if bt247.1.toList = bt249.1.toList then (if (bt251.2 != bt253.2) = true then (laws_FnLinesRankedOfAll.j4 kj31 a1 a2 a3 a4 a5 l6 t235 t236 t239 t240 bt243.1 bt247.1 bt247.2 bt251.1 bt251.2 true) else (if bt251.1 = bt253.1 then (if bt247.2 = true then (laws_FnLinesRankedOfAll.j4 kj31 a1 a2 a3 a4 a5 l6 t235 t236 t239 t240 bt243.1 bt247.1 bt247.2 bt251.1 bt251.2 bt251.2) else (laws_FnLinesRankedOfAll.j4 kj31 a1 a2 a3 a4 a5 l6 t235 t236 t239 t240 bt243.1 bt247.1 bt247.2 bt251.1 bt251.2 false)) else (laws_FnLinesRankedOfAll.j4 kj31 a1 a2 a3 a4 a5 l6 t235 t236 t239 t240 bt243.1 bt247.1 bt247.2 bt251.1 bt251.2 true))) else (laws_FnLinesRankedOfAll.j4 kj31 a1 a2 a3 a4 a5 l6 t235 t236 t239 t240 bt243.1 bt247.1 bt247.2 bt251.1 bt251.2 true)))) else (laws_FnLinesRankedOfAll.j4 kj31 a1 a2 a3 a4 a5 l6 t235 t236 t239 t240 bt243.1 bt247.1 bt247.2 bt251.1 bt251.2 true))) else (laws_FnLinesRankedOfAll.j4 kj31 a1 a2 a3 a4 a5 l6 t235 t236 t239 t240 bt243.1 bt247.1 bt247.2 bt251.1 bt251.2 true))) else (laws_FnLinesRankedOfAll.j4 kj31 a1 a2 a3 a4 a5 l6 t235 t236 t239 t240 bt243.1 bt247.1 bt247.2 bt251.1 bt251.2 true))))))))) = some r := H
                    have A64 := Aside0.mk A640
                    clear A640
                    replace H := Option.bind_eq_some_iff.mp H
                    obtain ⟨⟨t243, t244⟩, A650, H⟩ := H
                    replace H : ((spec_CountLines.f kj31 a1 a2 a3).bind fun bt245 => ((impl_PlayMoves.f a5 l6).bind fun bt247 => ((spec_PlayMoves.f kj31 a5 l6).bind fun bt249 => ((impl_MoveThatFails.f a5 l6).bind fun bt251 => ((spec_MoveThatFails.f kj31 a5 l6).bind fun bt253 => (if (t236 != t238) = true then (laws_FnLinesRankedOfAll.j4 kj31 a1 a2 a3 a4 a5 l6 t235 t236 t239 t240 t243 bt247.1 bt247.2 bt251.1 bt251.2 true) else (if t235.toList = t237.toList then (if (t240 != t242) = true then (laws_FnLinesRankedOfAll.j4 kj31 a1 a2 a3 a4 a5 l6 t235 t236 t239 t240 t243 bt247.1 bt247.2 bt251.1 bt251.2 true) else (if t239.toList = t241.toList then (if (t244 != bt245.2) = true then (laws_FnLinesRankedOfAll.j4 kj31 a1 a2 a3 a4 a5 l6 t235 t236 t239 t240 t243 bt247.1 bt247.2 bt251.1 bt251.2 true) else (if t243 = bt245.1 then (if (t244 != t240) = true then (laws_FnLinesRankedOfAll.j4 kj31 a1 a2 a3 a4 a5 l6 t235 t236 t239 t240 t243 bt247.1 bt247.2 bt251.1 bt251.2 true) else (if (bt247.2 != bt249.2) = true then (laws_FnLinesRankedOfAll.j4 kj31 a1 a2 a3 a4 a5 l6 t235 t236 t239 t240 t243 bt247.1 bt247.2 bt251.1 bt251.2 true) else (if bt247.1.toList = bt249.1.toList then (if (bt251.2 != bt253.2) = true then (laws_FnLinesRankedOfAll.j4 kj31 a1 a2 a3 a4 a5 l6 t235 t236 t239 t240 t243 bt247.1 bt247.2 bt251.1 bt251.2 true) else (if bt251.1 = bt253.1 then (if bt247.2 = true then (laws_FnLinesRankedOfAll.j4 kj31 a1 a2 a3 a4 a5 l6 t235 t236 t239 t240 t243 bt247.1 bt247.2 bt251.1 bt251.2 bt251.2) else (laws_FnLinesRankedOfAll.j4 kj31 a1 a2 a3 a4 a5 l6 t235 t236 t239 t240 t243 bt247.1 bt247.2 bt251.1 bt251.2 false)) else (laws_FnLinesRankedOfAll.j4 kj31 a1 a2 a3 a4 a5 l6 t235 t236 t239 t240 t243 bt247.1 bt247.2 bt251.1 bt251.2 true))) else (laws_FnLinesRankedOfAll.j4 kj31 a1 a2 a3 a4 a5 l6 t235 t236 t239 t240 t243 bt247.1 bt247.2 bt251.1 bt251.2 true)))) else (laws_FnLinesRankedOfAll.j4 kj31 a1 a2 a3 a4 a5 l6 t235 t236 t239 t240 t243 bt247.1 bt247.2 bt251.1 bt251.2 true))) else (laws_FnLinesRankedOfAll.j4 kj31 a1 a2 a3 a4 a5 l6 t235 t236 t239 t240 t243 bt247.1 bt247.2 bt251.1 bt251.2 true))) else (laws_FnLinesRankedOfAll.j4 kj31 a1 a2 a3 a4 a5 l6 t235 t236 t239 t240 t243 bt247.1 bt247.2 bt251.1 bt251.2 true)))))))) = some r := H
                    have A65 := Aside0.mk A650
                    clear A650
                    replace H := Option.bind_eq_some_iff.mp H
                    obtain ⟨⟨t245, t246⟩, A660, H⟩ := H
                    replace H : ((impl_PlayMoves.f a5 l6).bind fun bt247 => ((spec_PlayMoves.f kj31 a5 l6).bind fun bt249 => ((impl_MoveThatFails.f a5 l6).bind fun bt251 => ((spec_MoveThatFails.f kj31 a5 l6).bind fun bt253 => (if (t236 != t238) = true then (laws_FnLinesRankedOfAll.j4 kj31 a1 a2 a3 a4 a5 l6 t235 t236 t239 t240 t243 bt247.1 bt247.2 bt251.1 bt251.2 true) else (if t235.toList = t237.toList then (if (t240 != t242) = true then (laws_FnLinesRankedOfAll.j4 kj31 a1 a2 a3 a4 a5 l6 t235 t236 t239 t240 t243 bt247.1 bt247.2 bt251.1 bt251.2 true) else (if t239.toList = t241.toList then (if (t244 != t246) = true then (laws_FnLinesRankedOfAll.j4 kj31 a1 a2 a3 a4 a5 l6 t235 t236 t239 t240 t243 bt247.1 bt247.2 bt251.1 bt251.2 true) else (if t243 = t245 then (if (t244 != t240) = true then (laws_FnLinesRankedOfAll.j4 kj31 a1 a2 a3 a4 a5 l6 t235 t236 t239 t240 t243 bt247.1 bt247.2 bt251.1 bt251.2 true) else (if (bt247.2 != bt249.2) = true then (laws_FnLinesRankedOfAll.j4 kj31 a1 a2 a3 a4 a5 l6 t235 t236 t239 t240 t243 bt247.1 bt247.2 bt251.1 bt251.2 true) else (if bt247.1.toList = bt249.1.toList then (if (bt251.2 != bt253.2) = true then (laws_FnLinesRankedOfAll.j4 kj31 a1 a2 a3 a4 a5 l6 t235 t236 t239 t240 t243 bt247.1 bt247.2 bt251.1 bt251.2 true) else (if bt251.1 = bt253.1 then (if bt247.2 = true then (laws_FnLinesRankedOfAll.j4 kj31 a1 a2 a3 a4 a5 l6 t235 t236 t239 t240 t243 bt247.1 bt247.2 bt251.1 bt251.2 bt251.2) else (laws_FnLinesRankedOfAll.j4 kj31 a1 a2 a3 a4 a5 l6 t235 t236 t239 t240 t243 bt247.1 bt247.2 bt251.1 bt251.2 false)) else (laws_FnLinesRankedOfAll.j4 kj31 a1 a2 a3 a4 a5 l6 t235 t236 t239 t240 t243 bt247.1 bt247.2 bt251.1 bt251.2 true))) else (laws_FnLinesRankedOfAll.j4 kj31 a1 a2 a3 a4 a5 l6 t235 t236 t239 t240 t243 bt247.1 bt247.2 bt251.1 bt251.2 true)))) else (laws_FnLinesRankedOfAll.j4 kj31 a1 a2 a3 a4 a5 l6 t235 t236 t239 t240 t243 bt247.1 bt247.2 bt251.1 bt251.2 true))) else (laws_FnLinesRankedOfAll.j4 kj31 a1 a2 a3 a4 a5 l6 t235 t236 t239 t240 t243 bt247.1 bt247.2 bt251.1 bt251.2 true))) else (laws_FnLinesRankedOfAll.j4 kj31 a1 a2 a3 a4 a5 l6 t235 t236 t239 t240 t243 bt247.1 bt247.2 bt251.1 bt251.2 true))))))) = some r := H
                    have A66 := Aside0.mk A660
                    clear A660
                    replace H := Option.bind_eq_some_iff.mp H
                    obtain ⟨⟨t247, t248⟩, A670, H⟩ := H
                    replace H : ((spec_PlayMoves.f kj31 a5 l6).bind fun bt249 => ((impl_MoveThatFails.f a5 l6).bind fun bt251 => ((spec_MoveThatFails.f kj31 a5 l6).bind fun bt253 => (if (t236 != t238) = true then (laws_FnLinesRankedOfAll.j4 kj31 a1 a2 a3 a4 a5 l6 t235 t236 t239 t240 t243 t247 t248 bt251.1 bt251.2 true) else (if t235.toList = t237.toList then (if (t240 != t242) = true then (laws_FnLinesRankedOfAll.j4 kj31 a1 a2 a3 a4 a5 l6 t235 t236 t239 t240 t243 t247 t248 bt251.1 bt251.2 true) else (if t239.toList = t241.toList then (if (t244 != t246) = true then (laws_FnLinesRankedOfAll.j4 kj31 a1 a2 a3 a4 a5 l6 t235 t236 t239 t240 t243 t247 t248 bt251.1 bt251.2 true) else (if t243 = t245 then (if (t244 != t240) = true then (laws_FnLinesRankedOfAll.j4 kj31 a1 a2 a3 a4 a5 l6 t235 t236 t239 t240 t243 t247 t248 bt251.1 bt251.2 true) else (if (t248 != bt249.2) = true then (laws_FnLinesRankedOfAll.j4 kj31 a1 a2 a3 a4 a5 l6 t235 t236 t239 t240 t243 t247 t248 bt251.1 bt251.2 true) else (if t247.toList = bt249.1.toList then (if (bt251.2 != bt253.2) = true then (laws_FnLinesRankedOfAll.j4 kj31 a1 a2 a3 a4 a5 l6 t235 t236 t239 t240 t243 t247 t248 bt251.1 bt251.2 true) else (if bt251.1 = bt253.1 then (if t248 = true then (laws_FnLinesRankedOfAll.j4 kj31 a1 a2 a3 a4 a5 l6 t235 t236 t239 t240 t243 t247 t248 bt251.1 bt251.2 bt251.2) else (laws_FnLinesRankedOfAll.j4 kj31 a1 a2 a3 a4 a5 l6 t235 t236 t239 t240 t243 t247 t248 bt251.1 bt251.2 false)) else (laws_FnLinesRankedOfAll.j4 kj31 a1 a2 a3 a4 a5 l6 t235 t236 t239 t240 t243 t247 t248 bt251.1 bt251.2 true))) else (laws_FnLinesRankedOfAll.j4 kj31 a1 a2 a3 a4 a5 l6 t235 t236 t239 t240 t243 t247 t248 bt251.1 bt251.2 true)))) else (laws_FnLinesRankedOfAll.j4 kj31 a1 a2 a3 a4 a5 l6 t235 t236 t239 t240 t243 t247 t248 bt251.1 bt251.2 true))) else (laws_FnLinesRankedOfAll.j4 kj31 a1 a2 a3 a4 a5 l6 t235 t236 t239 t240 t243 t247 t248 bt251.1 bt251.2 true))) else (laws_FnLinesRankedOfAll.j4 kj31 a1 a2 a3 a4 a5 l6 t235 t236 t239 t240 t243 t247 t248 bt251.1 bt251.2 true)))))) = some r := H
                    have A67 := Aside0.mk A670
                    clear A670
                    replace H := Option.bind_eq_some_iff.mp H
                    obtain ⟨⟨t249, t250⟩, A680, H⟩ := H
                    replace H : ((impl_MoveThatFails.f a5 l6).bind fun bt251 => ((spec_MoveThatFails.f kj31 a5 l6).bind fun bt253 => (if (t236 != t238) = true then (laws_FnLinesRankedOfAll.j4 kj31 a1 a2 a3 a4 a5 l6 t235 t236 t239 t240 t243 t247 t248 bt251.1 bt251.2 true) else (if t235.toList = t237.toList then (if (t240 != t242) = true then (laws_FnLinesRankedOfAll.j4 kj31 a1 a2 a3 a4 a5 l6 t235 t236 t239 t240 t243 t247 t248 bt251.1 bt251.2 true) else (if t239.toList = t241.toList then (if (t244 != t246) = true then (laws_FnLinesRankedOfAll.j4 kj31 a1 a2 a3 a4 a5 l6 t235 t236 t239 t240 t243 t247 t248 bt251.1 bt251.2 true) else (if t243 = t245 then (if (t244 != t240) = true then (laws_FnLinesRankedOfAll.j4 kj31 a1 a2 a3 a4 a5 l6 t235 t236 t239 t240 t243 t247 t248 bt251.1 bt251.2 true) else (if (t248 != t250) = true then (laws_FnLinesRankedOfAll.j4 kj31 a1 a2 a3 a4 a5 l6 t235 t236 t239 t240 t243 t247 t248 bt251.1 bt251.2 true) else (if t247.toList = t249.toList then (if (bt251.2 != bt253.2) = true then (laws_FnLinesRankedOfAll.j4 kj31 a1 a2 a3 a4 a5 l6 t235 t236 t239 t240 t243 t247 t248 bt251.1 bt251.2 true) else (if bt251.1 = bt253.1 then (if t248 = true then (laws_FnLinesRankedOfAll.j4 kj31 a1 a2 a3 a4 a5 l6 t235 t236 t239 t240 t243 t247 t248 bt251.1 bt251.2 bt251.2) else (laws_FnLinesRankedOfAll.j4 kj31 a1 a2 a3 a4 a5 l6 t235 t236 t239 t240 t243 t247 t248 bt251.1 bt251.2 false)) else (laws_FnLinesRankedOfAll.j4 kj31 a1 a2 a3 a4 a5 l6 t235 t236 t239 t240 t243 t247 t248 bt251.1 bt251.2 true))) else (laws_FnLinesRankedOfAll.j4 kj31 a1 a2 a3 a4 a5 l6 t235 t236 t239 t240 t243 t247 t248 bt251.1 bt251.2 true)))) else (laws_FnLinesRankedOfAll.j4 kj31 a1 a2 a3 a4 a5 l6 t235 t236 t239 t240 t243 t247 t248 bt251.1 bt251.2 true))) else (laws_FnLinesRankedOfAll.j4 kj31 a1 a2 a3 a4 a5 l6 t235 t236 t239 t240 t243 t247 t248 bt251.1 bt251.2 true))) else (laws_FnLinesRankedOfAll.j4 kj31 a1 a2 a3 a4 a5 l6 t235 t236 t239 t240 t243 t247 t248 bt251.1 bt251.2 true))))) = some r := H
                    have A68 := Aside0.mk A680
                    clear A680
                    replace H := Option.bind_eq_some_iff.mp H
                    obtain ⟨⟨t251, t252⟩, A690, H⟩ := H
                    replace H : ((spec_MoveThatFails.f kj31 a5 l6).bind fun bt253 => (if (t236 != t238) = true then (laws_FnLinesRankedOfAll.j4 kj31 a1 a2 a3 a4 a5 l6 t235 t236 t239 t240 t243 t247 t248 t251 t252 true) else (if t235.toList = t237.toList then (if (t240 != t242) = true then (laws_FnLinesRankedOfAll.j4 kj31 a1 a2 a3 a4 a5 l6 t235 t236 t239 t240 t243 t247 t248 t251 t252 true) else (if t239.toList = t241.toList then (if (t244 != t246) = true then (laws_FnLinesRankedOfAll.j4 kj31 a1 a2 a3 a4 a5 l6 t235 t236 t239 t240 t243 t247 t248 t251 t252 true) else (if t243 = t245 then (if (t244 != t240) = true then (laws_FnLinesRankedOfAll.j4 kj31 a1 a2 a3 a4 a5 l6 t235 t236 t239 t240 t243 t247 t248 t251 t252 true) else (if (t248 != t250) = true then (laws_FnLinesRankedOfAll.j4 kj31 a1 a2 a3 a4 a5 l6 t235 t236 t239 t240 t243 t247 t248 t251 t252 true) else (if t247.toList = t249.toList then (if (t252 != bt253.2) = true then (laws_FnLinesRankedOfAll.j4 kj31 a1 a2 a3 a4 a5 l6 t235 t236 t239 t240 t243 t247 t248 t251 t252 true) else (if t251 = bt253.1 then (if t248 = true then (laws_FnLinesRankedOfAll.j4 kj31 a1 a2 a3 a4 a5 l6 t235 t236 t239 t240 t243 t247 t248 t251 t252 t252) else (laws_FnLinesRankedOfAll.j4 kj31 a1 a2 a3 a4 a5 l6 t235 t236 t239 t240 t243 t247 t248 t251 t252 false)) else (laws_FnLinesRankedOfAll.j4 kj31 a1 a2 a3 a4 a5 l6 t235 t236 t239 t240 t243 t247 t248 t251 t252 true))) else (laws_FnLinesRankedOfAll.j4 kj31 a1 a2 a3 a4 a5 l6 t235 t236 t239 t240 t243 t247 t248 t251 t252 true)))) else (laws_FnLinesRankedOfAll.j4 kj31 a1 a2 a3 a4 a5 l6 t235 t236 t239 t240 t243 t247 t248 t251 t252 true))) else (laws_FnLinesRankedOfAll.j4 kj31 a1 a2 a3 a4 a5 l6 t235 t236 t239 t240 t243 t247 t248 t251 t252 true))) else (laws_FnLinesRankedOfAll.j4 kj31 a1 a2 a3 a4 a5 l6 t235 t236 t239 t240 t243 t247 t248 t251 t252 true)))) = some r := H
                    have A69 := Aside0.mk A690
                    clear A690
                    replace H := Option.bind_eq_some_iff.mp H
                    obtain ⟨⟨t253, t254⟩, A700, H⟩ := H
                    replace H : (if (t236 != t238) = true then (laws_FnLinesRankedOfAll.j4 kj31 a1 a2 a3 a4 a5 l6 t235 t236 t239 t240 t243 t247 t248 t251 t252 true) else (if t235.toList = t237.toList then (if (t240 != t242) = true then (laws_FnLinesRankedOfAll.j4 kj31 a1 a2 a3 a4 a5 l6 t235 t236 t239 t240 t243 t247 t248 t251 t252 true) else (if t239.toList = t241.toList then (if (t244 != t246) = true then (laws_FnLinesRankedOfAll.j4 kj31 a1 a2 a3 a4 a5 l6 t235 t236 t239 t240 t243 t247 t248 t251 t252 true) else (if t243 = t245 then (if (t244 != t240) = true then (laws_FnLinesRankedOfAll.j4 kj31 a1 a2 a3 a4 a5 l6 t235 t236 t239 t240 t243 t247 t248 t251 t252 true) else (if (t248 != t250) = true then (laws_FnLinesRankedOfAll.j4 kj31 a1 a2 a3 a4 a5 l6 t235 t236 t239 t240 t243 t247 t248 t251 t252 true) else (if t247.toList = t249.toList then (if (t252 != t254) = true then (laws_FnLinesRankedOfAll.j4 kj31 a1 a2 a3 a4 a5 l6 t235 t236 t239 t240 t243 t247 t248 t251 t252 true) else (if t251 = t253 then (if t248 = true then (laws_FnLinesRankedOfAll.j4 kj31 a1 a2 a3 a4 a5 l6 t235 t236 t239 t240 t243 t247 t248 t251 t252 t252) else (laws_FnLinesRankedOfAll.j4 kj31 a1 a2 a3 a4 a5 l6 t235 t236 t239 t240 t243 t247 t248 t251 t252 false)) else (laws_FnLinesRankedOfAll.j4 kj31 a1 a2 a3 a4 a5 l6 t235 t236 t239 t240 t243 t247 t248 t251 t252 true))) else (laws_FnLinesRankedOfAll.j4 kj31 a1 a2 a3 a4 a5 l6 t235 t236 t239 t240 t243 t247 t248 t251 t252 true)))) else (laws_FnLinesRankedOfAll.j4 kj31 a1 a2 a3 a4 a5 l6 t235 t236 t239 t240 t243 t247 t248 t251 t252 true))) else (laws_FnLinesRankedOfAll.j4 kj31 a1 a2 a3 a4 a5 l6 t235 t236 t239 t240 t243 t247 t248 t251 t252 true))) else (laws_FnLinesRankedOfAll.j4 kj31 a1 a2 a3 a4 a5 l6 t235 t236 t239 t240 t243 t247 t248 t251 t252 true))) = some r := H
                    have A70 := Aside0.mk A700
                    clear A700
                    have HC71 := Aside0.mk H
                    clear H
                    go_upto_region 32 with (first | ((with_reducible refine gate_callee (f := 29) rfl ?_); refine goesL_ (some 283) rfl rfl Tryd.func29 (by kernel_rfl) rfl #[.int .i64 a1, .int .i64 a2, .int .i64 a3, .int .i64 a4] rfl (by (try simp only [List.map_toArray, List.map_cons, List.map_nil]); first | done | rfl | (simp only [List.length_drop, List.length_take]; rfl)) ?_; (with_reducible refine (impl_LineOfRank.calls a1 a2 a3 a4 t235 t236 _ A61.out).mono ?_); rintro e w72 ⟨rfl, hb⟩; refine ⟨_, rfl, ?_⟩; have n0_ := Aside0.mk (below_step (by repeat (first | (with_reducible first | exact HB.out | apply below_alloc | apply pw_below_drewN | apply below_drew1) | exact HB.out)) hb); clear HB; have HB := n0_; clear n0_; (try clear hb); (try clear hb2); (try clear hk); (try clear hi)) | ((with_reducible refine gate_callee (f := 31) rfl ?_); refine goesL_ (some 291) rfl rfl Tryd.func31 (by kernel_rfl) rfl #[.int .i64 a1, .int .i64 a2, .int .i64 a3, .int .i64 a4] rfl (by (try simp only [List.map_toArray, List.map_cons, List.map_nil]); first | done | rfl | (simp only [List.length_drop, List.length_take]; rfl)) ?_; (with_reducible refine (spec_LineOfRank.calls kj31 a1 a2 a3 a4 t237 t238 _ A62.out).mono ?_); rintro e w73 ⟨rfl, hb⟩; refine ⟨_, rfl, ?_⟩; have n0_ := Aside0.mk (below_step (by repeat (first | (with_reducible first | exact HB.out | apply below_alloc | apply pw_below_drewN | apply below_drew1) | exact HB.out)) hb); clear HB; have HB := n0_; clear n0_; (try clear hb); (try clear hb2); (try clear hk); (try clear hi)) | ((with_reducible refine gate_callee (f := 32) rfl ?_); refine goesL_ (some 298) rfl rfl Tryd.func32 (by kernel_rfl) rfl #[.int .i64 a1, .int .i64 a2, .int .i64 a3] rfl (by (try simp only [List.map_toArray, List.map_cons, List.map_nil]); first | done | rfl | (simp only [List.length_drop, List.length_take]; rfl)) ?_; (with_reducible refine (impl_FirstLine.calls a1 a2 a3 t239 t240 _ A63.out).mono ?_); rintro e w74 ⟨rfl, hb⟩; refine ⟨_, rfl, ?_⟩; have n0_ := Aside0.mk (below_step (by repeat (first | (with_reducible first | exact HB.out | apply below_alloc | apply pw_below_drewN | apply below_drew1) | exact HB.out)) hb); clear HB; have HB := n0_; clear n0_; (try clear hb); (try clear hb2); (try clear hk); (try clear hi)) | ((with_reducible refine gate_callee (f := 33) rfl ?_); refine goesL_ (some 305) rfl rfl Tryd.func33 (by kernel_rfl) rfl #[.int .i64 a1, .int .i64 a2, .int .i64 a3] rfl (by (try simp only [List.map_toArray, List.map_cons, List.map_nil]); first | done | rfl | (simp only [List.length_drop, List.length_take]; rfl)) ?_; (with_reducible refine (spec_FirstLine.calls kj31 a1 a2 a3 t241 t242 _ A64.out).mono ?_); rintro e w75 ⟨rfl, hb⟩; refine ⟨_, rfl, ?_⟩; have n0_ := Aside0.mk (below_step (by repeat (first | (with_reducible first | exact HB.out | apply below_alloc | apply pw_below_drewN | apply below_drew1) | exact HB.out)) hb); clear HB; have HB := n0_; clear n0_; (try clear hb); (try clear hb2); (try clear hk); (try clear hi)) | ((with_reducible refine gate_callee (f := 28) rfl ?_); refine goesL_ (some 312) rfl rfl Tryd.func28 (by kernel_rfl) rfl #[.int .i64 a1, .int .i64 a2, .int .i64 a3] rfl (by (try simp only [List.map_toArray, List.map_cons, List.map_nil]); first | done | rfl | (simp only [List.length_drop, List.length_take]; rfl)) ?_; (with_reducible refine (impl_CountLines.calls kj31 a1 a2 a3 t243 t244 _ A65.out).mono ?_); rintro e w' ⟨rfl, ⟨nd, rfl⟩⟩; refine ⟨_, rfl, ?_⟩) | ((with_reducible refine gate_callee (f := 34) rfl ?_); refine goesL_ (some 319) rfl rfl Tryd.func34 (by kernel_rfl) rfl #[.int .i64 a1, .int .i64 a2, .int .i64 a3] rfl (by (try simp only [List.map_toArray, List.map_cons, List.map_nil]); first | done | rfl | (simp only [List.length_drop, List.length_take]; rfl)) ?_; (with_reducible refine (spec_CountLines.calls kj31 a1 a2 a3 t245 t246 _ A66.out).mono ?_); rintro e w76 ⟨rfl, hb⟩; refine ⟨_, rfl, ?_⟩; have n0_ := Aside0.mk (below_step (by repeat (first | (with_reducible first | exact HB.out | apply below_alloc | apply pw_below_drewN | apply below_drew1) | exact HB.out)) hb); clear HB; have HB := n0_; clear n0_; (try clear hb); (try clear hb2); (try clear hk); (try clear hi)) | ((with_reducible refine gate_callee (f := 16) rfl ?_); refine goesL_ (some 325) rfl rfl Tryd.func16 (by kernel_rfl) rfl #[.string a5, .slice A6 l6.length c6] rfl (by (try simp only [List.map_toArray, List.map_cons, List.map_nil]); first | done | rfl | (simp only [List.length_drop, List.length_take]; rfl)) ?_; (with_reducible refine (impl_PlayMoves.calls a5 _ _ l6 t247 t248 _ ?side1 ?side2 A67.out).mono ?_); (case side1 => repeat (first | exact (Kd.C_below HR6.out HB.out) | (with_reducible refine Kd.C_alloc ?_ _) | (with_reducible refine Kd.C_drewN ?_ _) | (with_reducible refine Kd.C_drew ?_))); (case side2 => exact HC6.out); rintro e w77 ⟨rfl, hb⟩; refine ⟨_, rfl, ?_⟩; have n0_ := Aside0.mk (below_step (by repeat (first | (with_reducible first | exact HB.out | apply below_alloc | apply pw_below_drewN | apply below_drew1) | exact HB.out)) hb); clear HB; have HB := n0_; clear n0_; (try clear hb); (try clear hb2); (try clear hk); (try clear hi)) | ((with_reducible refine gate_callee (f := 15) rfl ?_); refine goesL_ (some 331) rfl rfl Tryd.func15 (by kernel_rfl) rfl #[.string a5, .slice A6 l6.length c6] rfl (by (try simp only [List.map_toArray, List.map_cons, List.map_nil]); first | done | rfl | (simp only [List.length_drop, List.length_take]; rfl)) ?_; (with_reducible refine (spec_PlayMoves.calls kj31 a5 _ _ l6 t249 t250 _ ?side1 ?side2 A68.out).mono ?_); (case side1 => repeat (first | exact (Kd.C_below HR6.out HB.out) | (with_reducible refine Kd.C_alloc ?_ _) | (with_reducible refine Kd.C_drewN ?_ _) | (with_reducible refine Kd.C_drew ?_))); (case side2 => exact HC6.out); rintro e w78 ⟨rfl, hb⟩; refine ⟨_, rfl, ?_⟩; have n0_ := Aside0.mk (below_step (by repeat (first | (with_reducible first | exact HB.out | apply below_alloc | apply pw_below_drewN | apply below_drew1) | exact HB.out)) hb); clear HB; have HB := n0_; clear n0_; (try clear hb); (try clear hb2); (try clear hk); (try clear hi)) | ((with_reducible refine gate_callee (f := 18) rfl ?_); refine goesL_ (some 337) rfl rfl Tryd.func18 (by kernel_rfl) rfl #[.string a5, .slice A6 l6.length c6] rfl (by (try simp only [List.map_toArray, List.map_cons, List.map_nil]); first | done | rfl | (simp only [List.length_drop, List.length_take]; rfl)) ?_; (with_reducible refine (impl_MoveThatFails.calls a5 _ _ l6 t251 t252 _ ?side1 ?side2 A69.out).mono ?_); (case side1 => repeat (first | exact (Kd.C_below HR6.out HB.out) | (with_reducible refine Kd.C_alloc ?_ _) | (with_reducible refine Kd.C_drewN ?_ _) | (with_reducible refine Kd.C_drew ?_))); (case side2 => exact HC6.out); rintro e w79 ⟨rfl, hb⟩; refine ⟨_, rfl, ?_⟩; have n0_ := Aside0.mk (below_step (by repeat (first | (with_reducible first | exact HB.out | apply below_alloc | apply pw_below_drewN | apply below_drew1) | exact HB.out)) hb); clear HB; have HB := n0_; clear n0_; (try clear hb); (try clear hb2); (try clear hk); (try clear hi)) | ((with_reducible refine gate_callee (f := 17) rfl ?_); refine goesL_ (some 343) rfl rfl Tryd.func17 (by kernel_rfl) rfl #[.string a5, .slice A6 l6.length c6] rfl (by (try simp only [List.map_toArray, List.map_cons, List.map_nil]); first | done | rfl | (simp only [List.length_drop, List.length_take]; rfl)) ?_; (with_reducible refine (spec_MoveThatFails.calls kj31 a5 _ _ l6 t253 t254 _ ?side1 ?side2 A70.out).mono ?_); (case side1 => repeat (first | exact (Kd.C_below HR6.out HB.out) | (with_reducible refine Kd.C_alloc ?_ _) | (with_reducible refine Kd.C_drewN ?_ _) | (with_reducible refine Kd.C_drew ?_))); (case side2 => exact HC6.out); rintro e w80 ⟨rfl, hb⟩; refine ⟨_, rfl, ?_⟩; have n0_ := Aside0.mk (below_step (by repeat (first | (with_reducible first | exact HB.out | apply below_alloc | apply pw_below_drewN | apply below_drew1) | exact HB.out)) hb); clear HB; have HB := n0_; clear n0_; (try clear hb); (try clear hb2); (try clear hk); (try clear hi)))
                    (try simp only [Act.put, List.setIfInBounds_toArray, List.set_cons_zero, List.set_cons_succ])
                    go_cut [404] from 258 to 404 (fun v404 wc => ∃ (kq : Nat) (x404_70 : Bool), v404 = .bool x404_70 ∧ Aside0 (laws_FnLinesRankedOfAll.j4 kq a1 a2 a3 a4 a5 l6 t235 t236 t239 t240 t243 t247 t248 t251 t252 x404_70 = some r) ∧ Aside0 (kq ≤ kj31) ∧ Aside0 (Below w.heap.size w wc))
                    case first =>
                      rename_i in1 in2 in3 in4 in5 in6 in7 in8 in9 in10 in11 in12 in13 in14 in15 in16 in17
                      revert k a0 a1 a2 a3 a4 a5 A6 c6 l6 r w hu46 HR6 HC6 in1 in2 in3 u71 u72 u73 u74 u75 u76 u77 u78 u79 u80 u81 u82 u83 u84 u85 u86 u87 u88 u89 kj7 HJ7 t207 t208 A12 t209 t210 A13 t211 t212 t213 t214 A14 t215 t216 t217 t218 A15 t219 t220 A16 t221 t222 A17 w19 in4 w20 in5 w21 in6 in7 in8 u91 u92 u93 u94 u95 u96 u97 u98 u99 u100 u101 u102 u103 u104 u105 u106 u107 u108 u109 u110 u111 u112 u113 u114 u115 u116 u117 u118 u119 u120 u121 u122 u123 u124 u125 u126 u127 u128 u129 u130 u131 u132 u133 u134 u135 u136 u137 u138 u139 u140 u141 u142 u143 u144 u145 u146 u147 u148 u149 u150 u151 u152 u153 u154 u155 u156 u157 u158 u159 u160 u161 u162 u163 u164 u165 u166 u167 u168 u169 u170 u171 in9 kj17 HJ17 wc u14 u31 u32 u33 u34 u35 u36 u37 u38 u39 u40 u41 u42 u173 u174 u175 u176 u177 u178 u179 u180 u181 u182 u183 u184 u185 u186 u187 u188 u189 u190 u191 u192 u193 u194 u195 u196 u197 u198 u199 u200 u201 u202 u203 u204 u205 u206 u207 u208 u209 u210 u211 u212 u213 u214 u215 u216 u217 u218 u219 u220 u221 u222 u223 u224 u225 u226 u227 u228 u229 u230 u231 u232 u233 u234 u235 u236 u237 u238 u239 u240 u241 u242 u243 u244 u245 u246 u247 u248 u249 u250 u251 u252 u253 u254 u255 u256 u257 u258 u259 u260 u261 u262 u263 u264 u265 u266 u267 u268 u269 u270 u271 u272 u273 u274 u275 u276 u277 kj31 HJ31 t235 t236 A61 t237 t238 A62 t239 t240 A63 t241 t242 A64 t243 t244 A65 t245 t246 A66 t247 t248 A67 t249 t250 A68 t251 t252 A69 t253 t254 A70 HC71 w72 w73 w74 w75 nd w76 w77 w78 w79 w80 HB in10 in11 in12 in13 in14 in15 in16 in17
                      exact Q3.out
                    case rest =>
                      clear HC71
                      try clear c1
                      try clear c2
                      try clear p2
                      try clear c3
                      try clear c4
                      try clear c5
                      try clear c6
                      try clear p6
                      try clear c7
                      try clear c8
                      try clear c9
                      try clear c9b0
                      try clear c9b1
                      try clear c10
                      try clear c10b0
                      try clear c10b1
                      try clear c11
                      try clear c15
                      try clear c16
                      try clear c17
                      try clear c18
                      try clear c22
                      try clear c22b0
                      try clear c22b1
                      try clear c22b2
                      try clear c23
                      try clear c23b0
                      try clear c23b1
                      try clear c24
                      try clear c24b0
                      try clear c24b1
                      try clear c24b2
                      try clear c25
                      try clear c25b0
                      try clear c25b1
                      try clear c26
                      try clear c26b0
                      try clear c26b1
                      try clear c27
                      try clear c27b0
                      try clear c27b1
                      try clear c28
                      try clear c28b0
                      try clear c28b1
                      try clear c28b2
                      try clear c29
                      try clear c29b0
                      try clear c29b1
                      try clear c30
                      try clear c30b0
                      try clear c30b1
                      try clear c30b2
                      try clear c31
                      try clear c32
                      try clear c33
                      try clear c34
                      try clear c42
                      try clear c43
                      try clear c43b0
                      try clear c44
                      try clear c44b0
                      try clear c45
                      try clear c46
                      try clear c46b0
                      try clear c46b1
                      try clear c47
                      try clear c47b0
                      try clear c47b1
                      try clear c48
                      try clear c49
                      try clear c49b0
                      try clear c49b1
                      try clear c50
                      try clear c51
                      try clear c51b0
                      try clear c51b1
                      try clear c52
                      try clear c52b0
                      try clear c52b1
                      try clear c53
                      try clear c54
                      try clear c54b0
                      try clear c56
                      try clear c57
                      try clear c57b0
                      try clear p64
                      try clear c81
                      try clear c81b0
                      try clear c81b1
                      try clear c81b2
                      try clear c82
                      try clear c82b0
                      try clear c82b1
                      try clear c83
                      try clear c83b0
                      try clear c83b1
                      try clear c83b2
                      try clear c84
                      try clear c84b0
                      try clear c84b1
                      try clear c85
                      try clear c85b0
                      try clear c85b1
                      try clear c85b2
                      try clear c86
                      try clear c86b0
                      try clear c86b1
                      try clear c87
                      try clear c87b0
                      try clear c87b1
                      try clear c87b2
                      try clear c88
                      try clear c88b0
                      try clear c88b1
                      try clear c88b2
                      try clear c89
                      try clear c89b0
                      try clear c89b1
                      try clear c90
                      try clear c90b0
                      try clear c90b1
                      try clear c90b2
                      try clear c91
                      try clear c91b0
                      try clear c91b1
                      try clear c92
                      try clear p2
                      try clear p6
                      obtain ⟨kq, x404_70, rfl, HA, HJ70, HB⟩ := hcut
                      cases kq with
                      | zero => exact absurd HA.out (by simp [laws_FnLinesRankedOfAll.j4])
                      | succ kj70 =>
                        have H := HA.out
                        clear HA
                        simp only [laws_FnLinesRankedOfAll.j4] at H
                        by_cases c93 : x404_70 = true
                        · subst c93
                          have H1 : (some false) = some r := by rw [if_pos rfl] at H; exact H
                          clear H
                          have H := H1
                          clear H1
                          obtain rfl := Option.some.inj H
                          go_wp2
                          go_ret
                          exact ⟨by first | rfl | (simp [errW_none, errW_some] <;> rfl) | (simp [*, errW_none, errW_some] <;> rfl), by repeat (first | (with_reducible first | exact HB.out | apply below_alloc | apply pw_below_drewN | apply below_drew1) | exact HB.out)⟩
                        · replace c93 := Bool.eq_false_iff.mpr c93
                          subst c93
                          have H1 : (if t236 = true then ((impl_RankOfLine.f t235).bind fun bt255 => (if bt255.2 = true then (if bt255.1 = a4 then (if a4 ≥ t243 then (some false) else (laws_FnLinesRankedOfAll.j5 kj70 a1 a2 a3 a5 l6 t239 t240 t247 t248 t251 t252)) else (some false)) else (some false))) else (laws_FnLinesRankedOfAll.j5 kj70 a1 a2 a3 a5 l6 t239 t240 t247 t248 t251 t252)) = some r := by rw [if_neg (show ¬ (false = true) by decide)] at H; exact H
                          clear H
                          have H := H1
                          clear H1
                          have HC94 := Aside0.mk H
                          clear H
                          go_upto_if 405 with (fail)
                          go_cut [] from 405 to 405 (fun wc => ∃ (kq : Nat), Aside0 (laws_FnLinesRankedOfAll.j5 kq a1 a2 a3 a5 l6 t239 t240 t247 t248 t251 t252 = some r) ∧ Aside0 (kq ≤ kj70) ∧ Aside0 (Below w.heap.size w wc))
                          case first =>
                            rename_i in1 in2 in3 in4 in5 in6 in7 in8 in9 in10 in11 in12 in13 in14 in15 in16 in17 in18 in19 in20 in21 in22 in23 in24 in25 in26 in27 in28 in29 in30 in31 in32 in33 in34 in35 in36 in37
                            revert k a0 a1 a2 a3 a4 a5 A6 c6 l6 r w hu46 HR6 HC6 in1 in2 in3 u71 u72 u73 u74 u75 u76 u77 u78 u79 u80 u81 u82 u83 u84 u85 u86 u87 u88 u89 kj7 HJ7 t207 t208 A12 t209 t210 A13 t211 t212 t213 t214 A14 t215 t216 t217 t218 A15 t219 t220 A16 t221 t222 A17 w19 in4 w20 in5 w21 in6 in7 in8 u91 u92 u93 u94 u95 u96 u97 u98 u99 u100 u101 u102 u103 u104 u105 u106 u107 u108 u109 u110 u111 u112 u113 u114 u115 u116 u117 u118 u119 u120 u121 u122 u123 u124 u125 u126 u127 u128 u129 u130 u131 u132 u133 u134 u135 u136 u137 u138 u139 u140 u141 u142 u143 u144 u145 u146 u147 u148 u149 u150 u151 u152 u153 u154 u155 u156 u157 u158 u159 u160 u161 u162 u163 u164 u165 u166 u167 u168 u169 u170 u171 in9 kj17 HJ17 in10 u14 u31 u32 u33 u34 u35 u36 u37 u38 u39 u40 u41 u42 u173 u174 u175 u176 u177 u178 u179 u180 u181 u182 u183 u184 u185 u186 u187 u188 u189 u190 u191 u192 u193 u194 u195 u196 u197 u198 u199 u200 u201 u202 u203 u204 u205 u206 u207 u208 u209 u210 u211 u212 u213 u214 u215 u216 u217 u218 u219 u220 u221 u222 u223 u224 u225 u226 u227 u228 u229 u230 u231 u232 u233 u234 u235 u236 u237 u238 u239 u240 u241 u242 u243 u244 u245 u246 u247 u248 u249 u250 u251 u252 u253 u254 u255 u256 u257 in11 in12 in13 in14 in15 in16 in17 in18 in19 in20 in21 in22 in23 in24 in25 in26 in27 in28 in29 in30 kj31 HJ31 t235 t236 A61 t237 t238 A62 t239 t240 A63 t241 t242 A64 t243 t244 A65 t245 t246 A66 t247 t248 A67 t249 t250 A68 t251 t252 A69 t253 t254 A70 w72 w73 w74 w75 nd w76 w77 w78 w79 w80 in31 wc u258 u259 u260 u261 u262 u263 u264 u265 u266 u267 u268 u269 u270 u271 u272 u273 u274 u275 u276 u277 u278 u279 u280 u281 u282 u283 u284 u285 u286 u287 u288 u289 u290 u291 u292 u293 u294 u295 u296 u297 u298 u299 u300 u301 u302 u303 u304 u305 u306 u307 u308 u309 u310 u311 u312 u313 u314 u315 u316 u317 u318 u319 u320 u321 u322 u323 u324 u325 u326 u327 u328 u329 u330 u331 u332 u333 u334 u335 u336 u337 u338 u339 u340 u341 u342 u343 u344 u345 u346 u347 u348 u349 u350 u351 u352 u353 u354 u355 u356 u357 u358 u359 u360 u361 u362 u363 u364 u365 u366 u367 u368 u369 u370 u371 u372 u373 u374 u375 u376 u377 u378 u379 u380 u381 u382 u383 u384 u385 u386 u387 u388 u389 u390 u391 u392 u393 u394 u395 u396 u397 u398 u399 u400 u401 u402 u403 HB kj70 HJ70 HC94 in32 in33 in34 in35 in36 in37
                            exact Q4.out
                          case rest =>
                            clear HC94
                            try clear c1
                            try clear c2
                            try clear p2
                            try clear c3
                            try clear c4
                            try clear c5
                            try clear c6
                            try clear p6
                            try clear c7
                            try clear c8
                            try clear c9
                            try clear c9b0
                            try clear c9b1
                            try clear c10
                            try clear c10b0
                            try clear c10b1
                            try clear c11
                            try clear c15
                            try clear c16
                            try clear c17
                            try clear c18
                            try clear c22
                            try clear c22b0
                            try clear c22b1
                            try clear c22b2
                            try clear c23
                            try clear c23b0
                            try clear c23b1
                            try clear c24
                            try clear c24b0
                            try clear c24b1
                            try clear c24b2
                            try clear c25
                            try clear c25b0
                            try clear c25b1
                            try clear c26
                            try clear c26b0
                            try clear c26b1
                            try clear c27
                            try clear c27b0
                            try clear c27b1
                            try clear c28
                            try clear c28b0
                            try clear c28b1
                            try clear c28b2
                            try clear c29
                            try clear c29b0
                            try clear c29b1
                            try clear c30
                            try clear c30b0
                            try clear c30b1
                            try clear c30b2
                            try clear c31
                            try clear c32
                            try clear c33
                            try clear c34
                            try clear c42
                            try clear c43
                            try clear c43b0
                            try clear c44
                            try clear c44b0
                            try clear c45
                            try clear c46
                            try clear c46b0
                            try clear c46b1
                            try clear c47
                            try clear c47b0
                            try clear c47b1
                            try clear c48
                            try clear c49
                            try clear c49b0
                            try clear c49b1
                            try clear c50
                            try clear c51
                            try clear c51b0
                            try clear c51b1
                            try clear c52
                            try clear c52b0
                            try clear c52b1
                            try clear c53
                            try clear c54
                            try clear c54b0
                            try clear c56
                            try clear c57
                            try clear c57b0
                            try clear p64
                            try clear c81
                            try clear c81b0
                            try clear c81b1
                            try clear c81b2
                            try clear c82
                            try clear c82b0
                            try clear c82b1
                            try clear c83
                            try clear c83b0
                            try clear c83b1
                            try clear c83b2
                            try clear c84
                            try clear c84b0
                            try clear c84b1
                            try clear c85
                            try clear c85b0
                            try clear c85b1
                            try clear c85b2
                            try clear c86
                            try clear c86b0
                            try clear c86b1
                            try clear c87
                            try clear c87b0
                            try clear c87b1
                            try clear c87b2
                            try clear c88
                            try clear c88b0
                            try clear c88b1
                            try clear c88b2
                            try clear c89
                            try clear c89b0
                            try clear c89b1
                            try clear c90
                            try clear c90b0
                            try clear c90b1
                            try clear c90b2
                            try clear c91
                            try clear c91b0
                            try clear c91b1
                            try clear c92
                            try clear c93
                            try clear c95
                            try clear c97
                            try clear c98
                            try clear c98b0
                            try clear c98b1
                            try clear c99
                            try clear c99b0
                            try clear p2
                            try clear p6
                            try clear p64
                            obtain ⟨kq, HA, HJ93, HB⟩ := hcut
                            cases kq with
                            | zero => exact absurd HA.out (by simp [laws_FnLinesRankedOfAll.j5])
                            | succ kj93 =>
                              have H := HA.out
                              clear HA
                              simp only [laws_FnLinesRankedOfAll.j5] at H
                              have HC104 := Aside0.mk H
                              clear H
                              go_upto_if 423 with (fail)
                              go_cut [] from 423 to 423 (fun wc => ∃ (kq : Nat), Aside0 (laws_FnLinesRankedOfAll.j6 kq a5 l6 t247 t248 t251 t252 = some r) ∧ Aside0 (kq ≤ kj93) ∧ Aside0 (Below w.heap.size w wc))
                              case first =>
                                rename_i in1 in2 in3 in4 in5 in6 in7 in8 in9 in10 in11 in12 in13 in14 in15 in16 in17 in18 in19 in20 in21 in22 in23 in24 in25 in26 in27 in28 in29 in30 in31 in32 in33 in34 in35 in36 in37 in38 in39 in40
                                revert k a0 a1 a2 a3 a4 a5 A6 c6 l6 r w hu46 HR6 HC6 in1 in2 in3 u71 u72 u73 u74 u75 u76 u77 u78 u79 u80 u81 u82 u83 u84 u85 u86 u87 u88 u89 kj7 HJ7 t207 t208 A12 t209 t210 A13 t211 t212 t213 t214 A14 t215 t216 t217 t218 A15 t219 t220 A16 t221 t222 A17 w19 in4 w20 in5 w21 in6 in7 in8 u91 u92 u93 u94 u95 u96 u97 u98 u99 u100 u101 u102 u103 u104 u105 u106 u107 u108 u109 u110 u111 u112 u113 u114 u115 u116 u117 u118 u119 u120 u121 u122 u123 u124 u125 u126 u127 u128 u129 u130 u131 u132 u133 u134 u135 u136 u137 u138 u139 u140 u141 u142 u143 u144 u145 u146 u147 u148 u149 u150 u151 u152 u153 u154 u155 u156 u157 u158 u159 u160 u161 u162 u163 u164 u165 u166 u167 u168 u169 u170 u171 in9 kj17 HJ17 in10 in11 u31 u32 u33 u34 u35 u36 u37 u38 u39 u40 u41 u42 u173 u174 u175 u176 u177 u178 u179 u180 u181 u182 u183 u184 u185 u186 u187 u188 u189 u190 u191 u192 u193 u194 u195 u196 u197 u198 u199 u200 u201 u202 u203 u204 u205 u206 u207 u208 u209 u210 u211 u212 u213 u214 u215 u216 u217 u218 u219 u220 u221 u222 u223 u224 u225 u226 u227 u228 u229 u230 u231 u232 u233 u234 u235 u236 u237 u238 u239 u240 u241 u242 u243 u244 u245 u246 u247 u248 u249 u250 u251 u252 u253 u254 u255 u256 u257 in12 in13 in14 in15 in16 in17 in18 in19 in20 in21 in22 in23 in24 in25 in26 in27 in28 in29 in30 in31 kj31 HJ31 t235 t236 A61 t237 t238 A62 t239 t240 A63 t241 t242 A64 t243 t244 A65 t245 t246 A66 t247 t248 A67 t249 t250 A68 t251 t252 A69 t253 t254 A70 w72 w73 w74 w75 nd w76 w77 w78 w79 w80 in32 in33 u258 u259 u260 u261 u262 u263 u264 u265 u266 u267 u268 u269 u270 u271 u272 u273 u274 u275 u276 u277 u278 u279 u280 u281 u282 u283 u284 u285 u286 u287 u288 u289 u290 u291 u292 u293 u294 u295 u296 u297 u298 u299 u300 u301 u302 u303 u304 u305 u306 u307 u308 u309 u310 u311 u312 u313 u314 u315 u316 u317 u318 u319 u320 u321 u322 u323 u324 u325 u326 u327 u328 u329 u330 u331 u332 u333 u334 u335 u336 u337 u338 u339 u340 u341 u342 u343 u344 u345 u346 u347 u348 u349 u350 u351 u352 u353 u354 u355 u356 u357 u358 u359 u360 u361 u362 u363 u364 u365 u366 u367 u368 u369 u370 u371 u372 u373 u374 u375 u376 u377 u378 u379 u380 u381 u382 u383 u384 u385 u386 u387 u388 u389 u390 u391 u392 u393 u394 u395 u396 u397 u398 u399 u400 u401 u402 u403 in34 kj70 HJ70 wc u14 u63 u64 u405 u406 u407 u408 u409 u410 u411 u412 u413 u414 u415 u416 u417 u418 u419 u420 u421 u422 HB kj93 HJ93 HC104 in35 in36 in37 in38 in39 in40
                                exact Q5.out
                              case rest =>
                                clear HC104
                                try clear c1
                                try clear c2
                                try clear p2
                                try clear c3
                                try clear c4
                                try clear c5
                                try clear c6
                                try clear p6
                                try clear c7
                                try clear c8
                                try clear c9
                                try clear c9b0
                                try clear c9b1
                                try clear c10
                                try clear c10b0
                                try clear c10b1
                                try clear c11
                                try clear c15
                                try clear c16
                                try clear c17
                                try clear c18
                                try clear c22
                                try clear c22b0
                                try clear c22b1
                                try clear c22b2
                                try clear c23
                                try clear c23b0
                                try clear c23b1
                                try clear c24
                                try clear c24b0
                                try clear c24b1
                                try clear c24b2
                                try clear c25
                                try clear c25b0
                                try clear c25b1
                                try clear c26
                                try clear c26b0
                                try clear c26b1
                                try clear c27
                                try clear c27b0
                                try clear c27b1
                                try clear c28
                                try clear c28b0
                                try clear c28b1
                                try clear c28b2
                                try clear c29
                                try clear c29b0
                                try clear c29b1
                                try clear c30
                                try clear c30b0
                                try clear c30b1
                                try clear c30b2
                                try clear c31
                                try clear c32
                                try clear c33
                                try clear c34
                                try clear c35
                                try clear c42
                                try clear c43
                                try clear c43b0
                                try clear c44
                                try clear c44b0
                                try clear c45
                                try clear c46
                                try clear c46b0
                                try clear c46b1
                                try clear c47
                                try clear c47b0
                                try clear c47b1
                                try clear c48
                                try clear c49
                                try clear c49b0
                                try clear c49b1
                                try clear c50
                                try clear c51
                                try clear c51b0
                                try clear c51b1
                                try clear c52
                                try clear c52b0
                                try clear c52b1
                                try clear c53
                                try clear c54
                                try clear c54b0
                                try clear c56
                                try clear c57
                                try clear c57b0
                                try clear p64
                                try clear c81
                                try clear c81b0
                                try clear c81b1
                                try clear c81b2
                                try clear c82
                                try clear c82b0
                                try clear c82b1
                                try clear c83
                                try clear c83b0
                                try clear c83b1
                                try clear c83b2
                                try clear c84
                                try clear c84b0
                                try clear c84b1
                                try clear c85
                                try clear c85b0
                                try clear c85b1
                                try clear c85b2
                                try clear c86
                                try clear c86b0
                                try clear c86b1
                                try clear c87
                                try clear c87b0
                                try clear c87b1
                                try clear c87b2
                                try clear c88
                                try clear c88b0
                                try clear c88b1
                                try clear c88b2
                                try clear c89
                                try clear c89b0
                                try clear c89b1
                                try clear c90
                                try clear c90b0
                                try clear c90b1
                                try clear c90b2
                                try clear c91
                                try clear c91b0
                                try clear c91b1
                                try clear c92
                                try clear c93
                                try clear c95
                                try clear c97
                                try clear c98
                                try clear c98b0
                                try clear c98b1
                                try clear c99
                                try clear c99b0
                                try clear c105
                                try clear c108
                                try clear c109
                                try clear c109b0
                                try clear c109b1
                                try clear c110
                                try clear c111
                                try clear c111b0
                                try clear c111b1
                                try clear p2
                                try clear p6
                                try clear p64
                                obtain ⟨kq, HA, HJ103, HB⟩ := hcut
                                cases kq with
                                | zero => exact absurd HA.out (by simp [laws_FnLinesRankedOfAll.j6])
                                | succ kj103 =>
                                  have H := HA.out
                                  clear HA
                                  simp only [laws_FnLinesRankedOfAll.j6] at H
                                  by_cases c122 : t248 = true
                                  · subst c122
                                    have H1 : (laws_FnLinesRankedOfAll.l0 kj103 t247 a5 l6 (l6.length : Int) 0) = some r := by rw [if_pos rfl] at H; exact H
                                    clear H
                                    have H := H1
                                    clear H1
                                    have H' := Aside0.mk H
                                    clear H
                                    go_wp2
                                    go_loopg [69, 466] kj103 (fun kq v69 v466 w' => ∃ (x69_7 : ByteArray) (x466_7 : Int), v69 = .string x69_7 ∧ v466 = .int .i64 x466_7 ∧ Aside0 (laws_FnLinesRankedOfAll.l0 kq t247 x69_7 l6 (l6.length : Int) x466_7 = some r) ∧ Aside0 (kq ≤ kj103) ∧ Aside0 (Below w.heap.size w w'))
                                    case atStart => exact ⟨(a5), (0), (by first | rfl | (simp; done) | (simp [*]; done)), (by first | rfl | (simp; done) | (simp [*]; done)), H', ⟨Nat.le_refl _⟩, ⟨by repeat (first | (with_reducible first | exact HB.out | apply below_alloc | apply pw_below_drewN | apply below_drew1) | exact HB.out)⟩⟩
                                    case round =>
                                      clear H'
                                      try clear c1
                                      try clear c2
                                      try clear p2
                                      try clear c3
                                      try clear c4
                                      try clear c5
                                      try clear c6
                                      try clear p6
                                      try clear c7
                                      try clear c8
                                      try clear c9
                                      try clear c9b0
                                      try clear c9b1
                                      try clear c10
                                      try clear c10b0
                                      try clear c10b1
                                      try clear c11
                                      try clear c12
                                      try clear c15
                                      try clear c16
                                      try clear c17
                                      try clear c18
                                      try clear c22
                                      try clear c22b0
                                      try clear c22b1
                                      try clear c22b2
                                      try clear c23
                                      try clear c23b0
                                      try clear c23b1
                                      try clear c24
                                      try clear c24b0
                                      try clear c24b1
                                      try clear c24b2
                                      try clear c25
                                      try clear c25b0
                                      try clear c25b1
                                      try clear c26
                                      try clear c26b0
                                      try clear c26b1
                                      try clear c27
                                      try clear c27b0
                                      try clear c27b1
                                      try clear c28
                                      try clear c28b0
                                      try clear c28b1
                                      try clear c28b2
                                      try clear c29
                                      try clear c29b0
                                      try clear c29b1
                                      try clear c30
                                      try clear c30b0
                                      try clear c30b1
                                      try clear c30b2
                                      try clear c31
                                      try clear c32
                                      try clear c33
                                      try clear c34
                                      try clear c35
                                      try clear c42
                                      try clear c43
                                      try clear c43b0
                                      try clear c44
                                      try clear c44b0
                                      try clear c45
                                      try clear c46
                                      try clear c46b0
                                      try clear c46b1
                                      try clear c47
                                      try clear c47b0
                                      try clear c47b1
                                      try clear c48
                                      try clear c49
                                      try clear c49b0
                                      try clear c49b1
                                      try clear c50
                                      try clear c51
                                      try clear c51b0
                                      try clear c51b1
                                      try clear c52
                                      try clear c52b0
                                      try clear c52b1
                                      try clear c53
                                      try clear c54
                                      try clear c54b0
                                      try clear c56
                                      try clear c57
                                      try clear c57b0
                                      try clear p64
                                      try clear c81
                                      try clear c81b0
                                      try clear c81b1
                                      try clear c81b2
                                      try clear c82
                                      try clear c82b0
                                      try clear c82b1
                                      try clear c83
                                      try clear c83b0
                                      try clear c83b1
                                      try clear c83b2
                                      try clear c84
                                      try clear c84b0
                                      try clear c84b1
                                      try clear c85
                                      try clear c85b0
                                      try clear c85b1
                                      try clear c85b2
                                      try clear c86
                                      try clear c86b0
                                      try clear c86b1
                                      try clear c87
                                      try clear c87b0
                                      try clear c87b1
                                      try clear c87b2
                                      try clear c88
                                      try clear c88b0
                                      try clear c88b1
                                      try clear c88b2
                                      try clear c89
                                      try clear c89b0
                                      try clear c89b1
                                      try clear c90
                                      try clear c90b0
                                      try clear c90b1
                                      try clear c90b2
                                      try clear c91
                                      try clear c91b0
                                      try clear c91b1
                                      try clear c92
                                      try clear c93
                                      try clear c95
                                      try clear c97
                                      try clear c98
                                      try clear c98b0
                                      try clear c98b1
                                      try clear c99
                                      try clear c99b0
                                      try clear c105
                                      try clear c108
                                      try clear c109
                                      try clear c109b0
                                      try clear c109b1
                                      try clear c110
                                      try clear c111
                                      try clear c111b0
                                      try clear c111b1
                                      try clear c122
                                      try clear p2
                                      try clear p6
                                      try clear p64
                                      obtain ⟨x69_7, x466_7, rfl, rfl, HA, HK7, HB⟩ := hrel
                                      cases gk with
                                      | zero => exact absurd HA.out (by simp [laws_FnLinesRankedOfAll.l0])
                                      | succ k7 =>
                                        have H := HA.out
                                        clear HA
                                        simp only [laws_FnLinesRankedOfAll.l0] at H
                                        by_cases c123 : x466_7 < (l6.length : Int)
                                        · rw [if_pos c123] at H
                                          have c123b0 : decide (x466_7 < (l6.length : Int)) = true := decide_eq_true c123
                                          clear c123
                                          by_cases c124 : 0 ≤ x466_7
                                          · rw [if_pos c124] at H
                                            have c124b0 : decide (0 ≤ x466_7) = true := decide_eq_true c124
                                            clear c124
                                            by_cases c125 : x466_7 < (l6.length : Int)
                                            · rw [if_pos c125] at H
                                              have c125b0 : decide (x466_7 < (l6.length : Int)) = true := decide_eq_true c125
                                              clear c125
                                              replace H := Option.bind_eq_some_iff.mp H
                                              obtain ⟨⟨t263, t264⟩, A1260, H⟩ := H
                                              replace H : (if t264 = true then (laws_FnLinesRankedOfAll.l0 k7 t247 t263 l6 (l6.length : Int) (wrap64 (x466_7 + 1))) else (some false)) = some r := H
                                              have A126 := Aside0.mk A1260
                                              clear A1260
                                              by_cases c127 : t264 = true
                                              · subst c127
                                                have H1 : (laws_FnLinesRankedOfAll.l0 k7 t247 t263 l6 (l6.length : Int) (wrap64 (x466_7 + 1))) = some r := by rw [if_pos rfl] at H; exact H
                                                clear H
                                                have H := H1
                                                clear H1
                                                have H' := Aside0.mk H
                                                clear H
                                                have p261 : 0 ≤ (x466_7 : Int) := of_decide_eq_true (by first | (with_reducible assumption) | assumption)
                                                have q261 : x466_7 < (l6.length : Int) := of_decide_eq_true (by first | (with_reducible assumption) | assumption)
                                                obtain ⟨ad261, e261, hx261_0, hx261_1⟩ := at_T46 HR6.out x466_7 p261 q261
                                                cases e261
                                                replace hx261_0 := (HB.out.cell (World.block_lt_of_cell? w _ hx261_0)).trans hx261_0
                                                replace hx261_1 := (HB.out.cell (World.block_lt_of_cell? w _ hx261_1)).trans hx261_1
                                                replace p261 := eq_true p261
                                                replace q261 := eq_true q261
                                                go_wp2_with (first | ((with_reducible refine gate_dst (N := 71) rfl ?_); (try (refine gate_guard (by rfl) ?_; dsimp only)); refine box_event ?hg (N := 71) ?hd (cs := #[.int .i64 0, .int .i64 0]) (t := 46) ?hr ?_; (case hd => rfl); (case hg => rfl); (case hr => first | (go_simp; done) | (go_simp; rfl)); intro gb262 hg w128 hbox hb; have n0_ := Aside0.mk (below_step (by repeat (first | (with_reducible first | exact HB.out | apply below_alloc | apply pw_below_drewN | apply below_drew1) | exact HB.out)) hb); have n1_ := Aside0.mk (hbox); have n2_ := Aside0.mk ((by rw [hg]; exact (below_size (by repeat (first | (with_reducible first | exact HB.out | apply below_alloc | apply pw_below_drewN | apply below_drew1) | exact HB.out))) : w.heap.size ≤ gb262)); have n3_ := Aside0.mk ((by rw [hg]; exact (below_size (by repeat (first | (with_reducible first | exact HB.out | apply below_alloc | apply pw_below_drewN | apply below_drew1) | exact HB.out))) : w.heap.size ≤ gb262)); clear HB; have HB := n0_; have BK262 := n1_; have GW262 := n2_; have GE262 := n3_; clear n0_ n1_ n2_ n3_; clear hb hbox hg; have hcz129_0 : w128.cell? ⟨gb262, 0, none⟩ = some (.int .i64 0) := (blk_cell BK262.out 0).trans rfl; have hcz129_1 : w128.cell? ⟨gb262, 1, none⟩ = some (.int .i64 0) := (blk_cell BK262.out 1).trans rfl; have hfz129_0 := blk_frozen BK262.out 0; have hfz129_1 := blk_frozen BK262.out 1) | ((with_reducible refine gate_callee (f := 36) rfl ?_); refine goesL_ (some 473) rfl rfl Tryd.func36 (by kernel_rfl) rfl #[.string x69_7, .agg #[.int .i64 ((rd_T46 l6 x466_7).f0), .int .i64 ((rd_T46 l6 x466_7).f1)]] rfl (by (try simp only [List.map_toArray, List.map_cons, List.map_nil]); first | done | rfl | (simp only [List.length_drop, List.length_take]; rfl)) ?_; (with_reducible refine (impl_MakeMove.calls x69_7 ((rd_T46 l6 x466_7).f0) ((rd_T46 l6 x466_7).f1) t263 true _ A126.out).mono ?_); rintro e w130 ⟨rfl, hb⟩; refine ⟨_, rfl, ?_⟩; have n0_ := Aside0.mk (blk_below (g := gb262) (o := .cells #[.int .i64 ((rd_T46 l6 x466_7).f0), .int .i64 ((rd_T46 l6 x466_7).f1)] 46 (0, 0)) (by (with_reducible repeat (first | refine blk_drewN ?_ _ | refine blk_drew ?_ | refine blk_alloc ?_ _)); refine blk_put (cs := #[.int .i64 ((rd_T46 l6 x466_7).f0), .int .i64 0]) ?_ 1 _ rfl; (with_reducible repeat (first | refine blk_drewN ?_ _ | refine blk_drew ?_ | refine blk_alloc ?_ _)); refine blk_put (cs := #[.int .i64 0, .int .i64 0]) ?_ 0 _ rfl; (with_reducible repeat (first | refine blk_drewN ?_ _ | refine blk_drew ?_ | refine blk_alloc ?_ _)); exact BK262.out) hb); have n1_ := Aside0.mk (below_step (by repeat (first | (with_reducible first | exact HB.out | apply below_alloc | apply pw_below_drewN | apply below_drew1 | refine below_set ?_ GE262.out) | exact HB.out)) hb); clear BK262; clear HB; have BK262 := n0_; have HB := n1_; clear n0_ n1_; (try clear hb); (try clear hb2); (try clear hk); (try clear hi)))
                                                go_roundg k7
                                                case measure => have := HJ7.out; have := HJ17.out; have := HJ31.out; have := HJ70.out; have := HJ93.out; have := HJ103.out; have := HK7.out; omega
                                                case rel => exact ⟨(t263), (wrap64 (x466_7 + 1)), (by first | rfl | (simp; done) | (simp [*]; done)), (by first | rfl | (simp; done) | (simp [*]; done)), H', ⟨by have := HJ7.out; have := HJ17.out; have := HJ31.out; have := HJ70.out; have := HJ93.out; have := HJ103.out; have := HK7.out; omega⟩, ⟨by repeat (first | (with_reducible first | exact HB.out | apply below_alloc | apply pw_below_drewN | apply below_drew1 | refine below_set ?_ GE262.out) | exact HB.out)⟩⟩
                                              · replace c127 := Bool.eq_false_iff.mpr c127
                                                subst c127
                                                have H1 : (some false) = some r := by rw [if_neg (show ¬ (false = true) by decide)] at H; exact H
                                                clear H
                                                have H := H1
                                                clear H1
                                                obtain rfl := Option.some.inj H
                                                have p261 : 0 ≤ (x466_7 : Int) := of_decide_eq_true (by first | (with_reducible assumption) | assumption)
                                                have q261 : x466_7 < (l6.length : Int) := of_decide_eq_true (by first | (with_reducible assumption) | assumption)
                                                obtain ⟨ad261, e261, hx261_0, hx261_1⟩ := at_T46 HR6.out x466_7 p261 q261
                                                cases e261
                                                replace hx261_0 := (HB.out.cell (World.block_lt_of_cell? w _ hx261_0)).trans hx261_0
                                                replace hx261_1 := (HB.out.cell (World.block_lt_of_cell? w _ hx261_1)).trans hx261_1
                                                replace p261 := eq_true p261
                                                replace q261 := eq_true q261
                                                go_wp2_with (first | ((with_reducible refine gate_dst (N := 71) rfl ?_); (try (refine gate_guard (by rfl) ?_; dsimp only)); refine box_event ?hg (N := 71) ?hd (cs := #[.int .i64 0, .int .i64 0]) (t := 46) ?hr ?_; (case hd => rfl); (case hg => rfl); (case hr => first | (go_simp; done) | (go_simp; rfl)); intro gb262 hg w131 hbox hb; have n0_ := Aside0.mk (below_step (by repeat (first | (with_reducible first | exact HB.out | apply below_alloc | apply pw_below_drewN | apply below_drew1) | exact HB.out)) hb); have n1_ := Aside0.mk (hbox); have n2_ := Aside0.mk ((by rw [hg]; exact (below_size (by repeat (first | (with_reducible first | exact HB.out | apply below_alloc | apply pw_below_drewN | apply below_drew1) | exact HB.out))) : w.heap.size ≤ gb262)); have n3_ := Aside0.mk ((by rw [hg]; exact (below_size (by repeat (first | (with_reducible first | exact HB.out | apply below_alloc | apply pw_below_drewN | apply below_drew1) | exact HB.out))) : w.heap.size ≤ gb262)); clear HB; have HB := n0_; have BK262 := n1_; have GW262 := n2_; have GE262 := n3_; clear n0_ n1_ n2_ n3_; clear hb hbox hg; have hcz132_0 : w131.cell? ⟨gb262, 0, none⟩ = some (.int .i64 0) := (blk_cell BK262.out 0).trans rfl; have hcz132_1 : w131.cell? ⟨gb262, 1, none⟩ = some (.int .i64 0) := (blk_cell BK262.out 1).trans rfl; have hfz132_0 := blk_frozen BK262.out 0; have hfz132_1 := blk_frozen BK262.out 1) | ((with_reducible refine gate_callee (f := 36) rfl ?_); refine goesL_ (some 473) rfl rfl Tryd.func36 (by kernel_rfl) rfl #[.string x69_7, .agg #[.int .i64 ((rd_T46 l6 x466_7).f0), .int .i64 ((rd_T46 l6 x466_7).f1)]] rfl (by (try simp only [List.map_toArray, List.map_cons, List.map_nil]); first | done | rfl | (simp only [List.length_drop, List.length_take]; rfl)) ?_; (with_reducible refine (impl_MakeMove.calls x69_7 ((rd_T46 l6 x466_7).f0) ((rd_T46 l6 x466_7).f1) t263 false _ A126.out).mono ?_); rintro e w133 ⟨rfl, hb⟩; refine ⟨_, rfl, ?_⟩; have n0_ := Aside0.mk (blk_below (g := gb262) (o := .cells #[.int .i64 ((rd_T46 l6 x466_7).f0), .int .i64 ((rd_T46 l6 x466_7).f1)] 46 (0, 0)) (by (with_reducible repeat (first | refine blk_drewN ?_ _ | refine blk_drew ?_ | refine blk_alloc ?_ _)); refine blk_put (cs := #[.int .i64 ((rd_T46 l6 x466_7).f0), .int .i64 0]) ?_ 1 _ rfl; (with_reducible repeat (first | refine blk_drewN ?_ _ | refine blk_drew ?_ | refine blk_alloc ?_ _)); refine blk_put (cs := #[.int .i64 0, .int .i64 0]) ?_ 0 _ rfl; (with_reducible repeat (first | refine blk_drewN ?_ _ | refine blk_drew ?_ | refine blk_alloc ?_ _)); exact BK262.out) hb); have n1_ := Aside0.mk (below_step (by repeat (first | (with_reducible first | exact HB.out | apply below_alloc | apply pw_below_drewN | apply below_drew1 | refine below_set ?_ GE262.out) | exact HB.out)) hb); clear BK262; clear HB; have BK262 := n0_; have HB := n1_; clear n0_ n1_; (try clear hb); (try clear hb2); (try clear hk); (try clear hi)))
                                                go_ret
                                                exact ⟨by first | rfl | (simp [errW_none, errW_some] <;> rfl) | (simp [*, errW_none, errW_some] <;> rfl), by repeat (first | (with_reducible first | exact HB.out | apply below_alloc | apply pw_below_drewN | apply below_drew1 | refine below_set ?_ GE262.out) | exact HB.out)⟩
                                            · rw [if_neg c125] at H
                                              exact absurd H (by simp)
                                          · rw [if_neg c124] at H
                                            exact absurd H (by simp)
                                        · rw [if_neg c123] at H
                                          have c123b0 : decide (x466_7 < (l6.length : Int)) = false := decide_eq_false c123
                                          clear c123
                                          obtain rfl := Option.some.inj H
                                          go_wp2
                                          go_ret
                                          exact ⟨by first | rfl | (simp [errW_none, errW_some] <;> rfl) | (simp [*, errW_none, errW_some] <;> rfl), by repeat (first | (with_reducible first | exact HB.out | apply below_alloc | apply pw_below_drewN | apply below_drew1) | exact HB.out)⟩
                                  · replace c122 := Bool.eq_false_iff.mpr c122
                                    subst c122
                                    have H1 : (if t252 = true then (if 0 ≤ t251 then (if t251 ≤ (l6.length : Int) then ((impl_PlayMoves.f a5 (l6.take (t251 : Int).toNat)).bind fun bt269 => (if t251 < (l6.length : Int) then ((impl_CanMove.f bt269.1 ((rd_T46 l6 t251).f0) ((rd_T46 l6 t251).f1)).bind fun bt272 => (if bt269.2 = true then (if bt272.2 = true then (some (!bt272.1)) else (some false)) else (some false))) else (none))) else (none)) else (none)) else (some true)) = some r := by rw [if_neg (show ¬ (false = true) by decide)] at H; exact H
                                    clear H
                                    have H := H1
                                    clear H1
                                    by_cases c134 : t252 = true
                                    · subst c134
                                      have H1 : (if 0 ≤ t251 then (if t251 ≤ (l6.length : Int) then ((impl_PlayMoves.f a5 (l6.take (t251 : Int).toNat)).bind fun bt269 => (if t251 < (l6.length : Int) then ((impl_CanMove.f bt269.1 ((rd_T46 l6 t251).f0) ((rd_T46 l6 t251).f1)).bind fun bt272 => (if bt269.2 = true then (if bt272.2 = true then (some (!bt272.1)) else (some false)) else (some false))) else (none))) else (none)) else (none)) = some r := by rw [if_pos rfl] at H; exact H
                                      clear H
                                      have H := H1
                                      clear H1
                                      by_cases c135 : 0 ≤ t251
                                      · rw [if_pos c135] at H
                                        have c135b0 := eq_true c135
                                        have c135b1 : decide (0 ≤ t251) = true := decide_eq_true c135
                                        clear c135
                                        by_cases c136 : t251 ≤ (l6.length : Int)
                                        · rw [if_pos c136] at H
                                          have c136b0 := eq_true c136
                                          have c136b1 : decide (t251 ≤ (l6.length : Int)) = true := decide_eq_true c136
                                          clear c136
                                          obtain ⟨y265, hy265⟩ : ∃ y_ : List (S46), y_ = (l6.take (t251 : Int).toNat) := ⟨_, rfl⟩
                                          replace H : ((impl_PlayMoves.f a5 y265).bind fun bt269 => (if t251 < (l6.length : Int) then ((impl_CanMove.f bt269.1 ((rd_T46 l6 t251).f0) ((rd_T46 l6 t251).f1)).bind fun bt272 => (if bt269.2 = true then (if bt272.2 = true then (some (!bt272.1)) else (some false)) else (some false))) else (none))) = some r := by first | (rw [hy265]; with_reducible exact H) | (have H2_ := (Option.bind_some _ _).symm.trans H; rw [hy265]; with_reducible exact H2_) | (have H2_ := (Option.bind_some _ _).symm.trans H; with_reducible exact H2_) | with_reducible exact H | (rw [hy265]; exact H) | exact H
                                          have Ny265 := Aside0.mk hy265
                                          clear hy265
                                          replace H := Option.bind_eq_some_iff.mp H
                                          obtain ⟨⟨t269, t270⟩, A1370, H⟩ := H
                                          replace H : (if t251 < (l6.length : Int) then ((impl_CanMove.f t269 ((rd_T46 l6 t251).f0) ((rd_T46 l6 t251).f1)).bind fun bt272 => (if t270 = true then (if bt272.2 = true then (some (!bt272.1)) else (some false)) else (some false))) else (none)) = some r := H
                                          have A137 := Aside0.mk A1370
                                          clear A1370
                                          by_cases c138 : t251 < (l6.length : Int)
                                          · rw [if_pos c138] at H
                                            have c138b0 : decide (t251 < (l6.length : Int)) = true := decide_eq_true c138
                                            clear c138
                                            replace H := Option.bind_eq_some_iff.mp H
                                            obtain ⟨⟨t272, t273⟩, A1390, H⟩ := H
                                            replace H : (if t270 = true then (if t273 = true then (some (!t272)) else (some false)) else (some false)) = some r := H
                                            have A139 := Aside0.mk A1390
                                            clear A1390
                                            by_cases c140 : t270 = true
                                            · subst c140
                                              have H1 : (if t273 = true then (some (!t272)) else (some false)) = some r := by rw [if_pos rfl] at H; exact H
                                              clear H
                                              have H := H1
                                              clear H1
                                              by_cases c141 : t273 = true
                                              · subst c141
                                                have H1 : (some (!t272)) = some r := by rw [if_pos rfl] at H; exact H
                                                clear H
                                                have H := H1
                                                clear H1
                                                obtain rfl := Option.some.inj H
                                                have q142 : (t251 : Int) ≤ ((l6.length : Int) : Int) := of_decide_eq_true (by first | (with_reducible assumption) | assumption)
                                                obtain ⟨i0142, hi0142, _, hsz142, _⟩ := info_parts info46
                                                have hroom142 : l6.length ≤ c6 := HC6.out
                                                have hC142 : Kd.C k46 _ A6 l6.length l6 := HR6.out
                                                have hcut142 := cut_to (P := Tryd.prog) 26 46 .i64 Tryd.underlying26 hi0142 A6 l6.length c6 t251 (of_decide_eq_true (by first | (with_reducible assumption) | assumption)) q142 hroom142
                                                have hr142 := Kd.C_take (m := (t251 : Int).toNat) hC142 (by omega)
                                                have hy142 : y265.length = (t251 : Int).toNat := (by rw [Ny265.out, List.length_take]; omega)
                                                rw [← Ny265.out] at hr142
                                                rw [← hy142] at hcut142
                                                have HR268 := Aside0.mk hr142
                                                have HC268 := Aside0.mk (show y265.length ≤ c6 from by omega)
                                                clear hr142 hC142 hroom142 hi0142 hsz142
                                                have KY142 := Aside0.mk hy142
                                                clear hy142
                                                replace q142 := eq_true q142
                                                go_wp2_with (first | ((with_reducible refine gate_callee (f := 16) rfl ?_); refine goesL_ (some 489) rfl rfl Tryd.func16 (by kernel_rfl) rfl #[.string a5, .slice A6 y265.length c6] rfl (by (try simp only [List.map_toArray, List.map_cons, List.map_nil]); first | done | rfl | (simp only [List.length_drop, List.length_take]; rfl)) ?_; (with_reducible refine (impl_PlayMoves.calls a5 _ _ y265 t269 true _ ?side1 ?side2 A137.out).mono ?_); (case side1 => repeat (first | exact (Kd.C_below HR268.out HB.out) | (with_reducible refine Kd.C_alloc ?_ _) | (with_reducible refine Kd.C_drewN ?_ _) | (with_reducible refine Kd.C_drew ?_))); (case side2 => exact HC268.out); rintro e w143 ⟨rfl, hb⟩; refine ⟨_, rfl, ?_⟩; have n0_ := Aside0.mk (below_step (by repeat (first | (with_reducible first | exact HB.out | apply below_alloc | apply pw_below_drewN | apply below_drew1) | exact HB.out)) hb); clear HB; have HB := n0_; clear n0_; (try clear hb); (try clear hb2); (try clear hk); (try clear hi); have p271 : 0 ≤ (t251 : Int) := of_decide_eq_true (by first | (with_reducible assumption) | assumption); have q271 : t251 < (l6.length : Int) := of_decide_eq_true (by first | (with_reducible assumption) | assumption); obtain ⟨ad271, e271, hx271_0, hx271_1⟩ := at_T46 HR6.out t251 p271 q271; cases e271; replace hx271_0 := (HB.out.cell (World.block_lt_of_cell? w _ hx271_0)).trans hx271_0; replace hx271_1 := (HB.out.cell (World.block_lt_of_cell? w _ hx271_1)).trans hx271_1; replace p271 := eq_true p271; replace q271 := eq_true q271) | ((with_reducible refine gate_callee (f := 37) rfl ?_); refine goesL_ (some 498) rfl rfl Tryd.func37 (by kernel_rfl) rfl #[.string t269, .agg #[.int .i64 ((rd_T46 l6 t251).f0), .int .i64 ((rd_T46 l6 t251).f1)]] rfl (by (try simp only [List.map_toArray, List.map_cons, List.map_nil]); first | done | rfl | (simp only [List.length_drop, List.length_take]; rfl)) ?_; (with_reducible refine (impl_CanMove.calls t269 ((rd_T46 l6 t251).f0) ((rd_T46 l6 t251).f1) t272 true _ A139.out).mono ?_); rintro e w144 ⟨rfl, hb⟩; refine ⟨_, rfl, ?_⟩; have n0_ := Aside0.mk (below_step (by repeat (first | (with_reducible first | exact HB.out | apply below_alloc | apply pw_below_drewN | apply below_drew1) | exact HB.out)) hb); clear HB; have HB := n0_; clear n0_; (try clear hb); (try clear hb2); (try clear hk); (try clear hi)))
                                                go_ret
                                                exact ⟨by first | rfl | (simp [errW_none, errW_some] <;> rfl) | (simp [*, errW_none, errW_some] <;> rfl), by repeat (first | (with_reducible first | exact HB.out | apply below_alloc | apply pw_below_drewN | apply below_drew1) | exact HB.out)⟩
                                              · replace c141 := Bool.eq_false_iff.mpr c141
                                                subst c141
                                                have H1 : (some false) = some r := by rw [if_neg (show ¬ (false = true) by decide)] at H; exact H
                                                clear H
                                                have H := H1
                                                clear H1
                                                obtain rfl := Option.some.inj H
                                                have q145 : (t251 : Int) ≤ ((l6.length : Int) : Int) := of_decide_eq_true (by first | (with_reducible assumption) | assumption)
                                                obtain ⟨i0145, hi0145, _, hsz145, _⟩ := info_parts info46
                                                have hroom145 : l6.length ≤ c6 := HC6.out
                                                have hC145 : Kd.C k46 _ A6 l6.length l6 := HR6.out
                                                have hcut145 := cut_to (P := Tryd.prog) 26 46 .i64 Tryd.underlying26 hi0145 A6 l6.length c6 t251 (of_decide_eq_true (by first | (with_reducible assumption) | assumption)) q145 hroom145
                                                have hr145 := Kd.C_take (m := (t251 : Int).toNat) hC145 (by omega)
                                                have hy145 : y265.length = (t251 : Int).toNat := (by rw [Ny265.out, List.length_take]; omega)
                                                rw [← Ny265.out] at hr145
                                                rw [← hy145] at hcut145
                                                have HR268 := Aside0.mk hr145
                                                have HC268 := Aside0.mk (show y265.length ≤ c6 from by omega)
                                                clear hr145 hC145 hroom145 hi0145 hsz145
                                                have KY145 := Aside0.mk hy145
                                                clear hy145
                                                replace q145 := eq_true q145
                                                go_wp2_with (first | ((with_reducible refine gate_callee (f := 16) rfl ?_); refine goesL_ (some 489) rfl rfl Tryd.func16 (by kernel_rfl) rfl #[.string a5, .slice A6 y265.length c6] rfl (by (try simp only [List.map_toArray, List.map_cons, List.map_nil]); first | done | rfl | (simp only [List.length_drop, List.length_take]; rfl)) ?_; (with_reducible refine (impl_PlayMoves.calls a5 _ _ y265 t269 true _ ?side1 ?side2 A137.out).mono ?_); (case side1 => repeat (first | exact (Kd.C_below HR268.out HB.out) | (with_reducible refine Kd.C_alloc ?_ _) | (with_reducible refine Kd.C_drewN ?_ _) | (with_reducible refine Kd.C_drew ?_))); (case side2 => exact HC268.out); rintro e w146 ⟨rfl, hb⟩; refine ⟨_, rfl, ?_⟩; have n0_ := Aside0.mk (below_step (by repeat (first | (with_reducible first | exact HB.out | apply below_alloc | apply pw_below_drewN | apply below_drew1) | exact HB.out)) hb); clear HB; have HB := n0_; clear n0_; (try clear hb); (try clear hb2); (try clear hk); (try clear hi); have p271 : 0 ≤ (t251 : Int) := of_decide_eq_true (by first | (with_reducible assumption) | assumption); have q271 : t251 < (l6.length : Int) := of_decide_eq_true (by first | (with_reducible assumption) | assumption); obtain ⟨ad271, e271, hx271_0, hx271_1⟩ := at_T46 HR6.out t251 p271 q271; cases e271; replace hx271_0 := (HB.out.cell (World.block_lt_of_cell? w _ hx271_0)).trans hx271_0; replace hx271_1 := (HB.out.cell (World.block_lt_of_cell? w _ hx271_1)).trans hx271_1; replace p271 := eq_true p271; replace q271 := eq_true q271) | ((with_reducible refine gate_callee (f := 37) rfl ?_); refine goesL_ (some 498) rfl rfl Tryd.func37 (by kernel_rfl) rfl #[.string t269, .agg #[.int .i64 ((rd_T46 l6 t251).f0), .int .i64 ((rd_T46 l6 t251).f1)]] rfl (by (try simp only [List.map_toArray, List.map_cons, List.map_nil]); first | done | rfl | (simp only [List.length_drop, List.length_take]; rfl)) ?_; (with_reducible refine (impl_CanMove.calls t269 ((rd_T46 l6 t251).f0) ((rd_T46 l6 t251).f1) t272 false _ A139.out).mono ?_); rintro e w147 ⟨rfl, hb⟩; refine ⟨_, rfl, ?_⟩; have n0_ := Aside0.mk (below_step (by repeat (first | (with_reducible first | exact HB.out | apply below_alloc | apply pw_below_drewN | apply below_drew1) | exact HB.out)) hb); clear HB; have HB := n0_; clear n0_; (try clear hb); (try clear hb2); (try clear hk); (try clear hi)))
                                                go_ret
                                                exact ⟨by first | rfl | (simp [errW_none, errW_some] <;> rfl) | (simp [*, errW_none, errW_some] <;> rfl), by repeat (first | (with_reducible first | exact HB.out | apply below_alloc | apply pw_below_drewN | apply below_drew1) | exact HB.out)⟩
                                            · replace c140 := Bool.eq_false_iff.mpr c140
                                              subst c140
                                              have H1 : (some false) = some r := by rw [if_neg (show ¬ (false = true) by decide)] at H; exact H
                                              clear H
                                              have H := H1
                                              clear H1
                                              obtain rfl := Option.some.inj H
                                              have q148 : (t251 : Int) ≤ ((l6.length : Int) : Int) := of_decide_eq_true (by first | (with_reducible assumption) | assumption)
                                              obtain ⟨i0148, hi0148, _, hsz148, _⟩ := info_parts info46
                                              have hroom148 : l6.length ≤ c6 := HC6.out
                                              have hC148 : Kd.C k46 _ A6 l6.length l6 := HR6.out
                                              have hcut148 := cut_to (P := Tryd.prog) 26 46 .i64 Tryd.underlying26 hi0148 A6 l6.length c6 t251 (of_decide_eq_true (by first | (with_reducible assumption) | assumption)) q148 hroom148
                                              have hr148 := Kd.C_take (m := (t251 : Int).toNat) hC148 (by omega)
                                              have hy148 : y265.length = (t251 : Int).toNat := (by rw [Ny265.out, List.length_take]; omega)
                                              rw [← Ny265.out] at hr148
                                              rw [← hy148] at hcut148
                                              have HR268 := Aside0.mk hr148
                                              have HC268 := Aside0.mk (show y265.length ≤ c6 from by omega)
                                              clear hr148 hC148 hroom148 hi0148 hsz148
                                              have KY148 := Aside0.mk hy148
                                              clear hy148
                                              replace q148 := eq_true q148
                                              go_wp2_with (first | ((with_reducible refine gate_callee (f := 16) rfl ?_); refine goesL_ (some 489) rfl rfl Tryd.func16 (by kernel_rfl) rfl #[.string a5, .slice A6 y265.length c6] rfl (by (try simp only [List.map_toArray, List.map_cons, List.map_nil]); first | done | rfl | (simp only [List.length_drop, List.length_take]; rfl)) ?_; (with_reducible refine (impl_PlayMoves.calls a5 _ _ y265 t269 false _ ?side1 ?side2 A137.out).mono ?_); (case side1 => repeat (first | exact (Kd.C_below HR268.out HB.out) | (with_reducible refine Kd.C_alloc ?_ _) | (with_reducible refine Kd.C_drewN ?_ _) | (with_reducible refine Kd.C_drew ?_))); (case side2 => exact HC268.out); rintro e w149 ⟨rfl, hb⟩; refine ⟨_, rfl, ?_⟩; have n0_ := Aside0.mk (below_step (by repeat (first | (with_reducible first | exact HB.out | apply below_alloc | apply pw_below_drewN | apply below_drew1) | exact HB.out)) hb); clear HB; have HB := n0_; clear n0_; (try clear hb); (try clear hb2); (try clear hk); (try clear hi); have p271 : 0 ≤ (t251 : Int) := of_decide_eq_true (by first | (with_reducible assumption) | assumption); have q271 : t251 < (l6.length : Int) := of_decide_eq_true (by first | (with_reducible assumption) | assumption); obtain ⟨ad271, e271, hx271_0, hx271_1⟩ := at_T46 HR6.out t251 p271 q271; cases e271; replace hx271_0 := (HB.out.cell (World.block_lt_of_cell? w _ hx271_0)).trans hx271_0; replace hx271_1 := (HB.out.cell (World.block_lt_of_cell? w _ hx271_1)).trans hx271_1; replace p271 := eq_true p271; replace q271 := eq_true q271) | ((with_reducible refine gate_callee (f := 37) rfl ?_); refine goesL_ (some 498) rfl rfl Tryd.func37 (by kernel_rfl) rfl #[.string t269, .agg #[.int .i64 ((rd_T46 l6 t251).f0), .int .i64 ((rd_T46 l6 t251).f1)]] rfl (by (try simp only [List.map_toArray, List.map_cons, List.map_nil]); first | done | rfl | (simp only [List.length_drop, List.length_take]; rfl)) ?_; (with_reducible refine (impl_CanMove.calls t269 ((rd_T46 l6 t251).f0) ((rd_T46 l6 t251).f1) t272 t273 _ A139.out).mono ?_); rintro e w150 ⟨rfl, hb⟩; refine ⟨_, rfl, ?_⟩; have n0_ := Aside0.mk (below_step (by repeat (first | (with_reducible first | exact HB.out | apply below_alloc | apply pw_below_drewN | apply below_drew1) | exact HB.out)) hb); clear HB; have HB := n0_; clear n0_; (try clear hb); (try clear hb2); (try clear hk); (try clear hi)))
                                              go_ret
                                              exact ⟨by first | rfl | (simp [errW_none, errW_some] <;> rfl) | (simp [*, errW_none, errW_some] <;> rfl), by repeat (first | (with_reducible first | exact HB.out | apply below_alloc | apply pw_below_drewN | apply below_drew1) | exact HB.out)⟩
                                          · rw [if_neg c138] at H
                                            exact absurd H (by simp)
                                        · rw [if_neg c136] at H
                                          exact absurd H (by simp)
                                      · rw [if_neg c135] at H
                                        exact absurd H (by simp)
                                    · replace c134 := Bool.eq_false_iff.mpr c134
                                      subst c134
                                      have H1 : (some true) = some r := by rw [if_neg (show ¬ (false = true) by decide)] at H; exact H
                                      clear H
                                      have H := H1
                                      clear H1
                                      obtain rfl := Option.some.inj H
                                      go_wp2
                                      go_ret
                                      exact ⟨by first | rfl | (simp [errW_none, errW_some] <;> rfl) | (simp [*, errW_none, errW_some] <;> rfl), by repeat (first | (with_reducible first | exact HB.out | apply below_alloc | apply pw_below_drewN | apply below_drew1) | exact HB.out)⟩

end Go.Proofs.YtgiphajcffambaaDoor.XA
