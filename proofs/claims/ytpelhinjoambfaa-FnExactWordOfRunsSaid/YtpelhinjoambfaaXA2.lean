/- The Lean functions that the Go functions of this seat compute, each with the proof that the Go function computes it, for every input (laws: FnExactWordOfRuns). Conditions: none beyond those that each theorem names. Written by a program of this session over the kit's printer. -/
import Derived.Test.YtpelhinjoambfaaXA0
import Derived.Test.YtpelhinjoambfaaXA1
namespace Go.Proofs.Ytpelhinjoambfaa.XA
open Go.RowKit Go.Proofs.YtpelhinjoambfaaW.PrintWords Go.Proofs.YtpelhinjoambfaaW.PrintLast Go.Proofs.YtpelhinjoambfaaW.PrintMore
attribute [local go_sem] max2_int min2_int max_two min_two max_three min_three max_four min_four   -- for this text's walks alone
attribute [local go_sem] Lib.run_min_strs Go.Proofs.YtpelhinjoambfaaXW.run_min2_strs Go.Proofs.YtpelhinjoambfaaXW.run_int_string
set_option linter.unusedVariables false
set_option linter.unusedSimpArgs false

/-! ### spec_WordOfRuns: function 18 -/
mutual
def spec_WordOfRuns.j0 : Nat → List Int → Bool → Bool → Option (ByteArray × Bool)
  | 0, _, _, _ => none
  | k + 1, x0, x1, x17 => if x17 = true then (some ((⟨#[]⟩ : ByteArray), false)) else (spec_WordOfRuns.l0 k x1 (⟨#[]⟩ : ByteArray) x0 (x0.length : Int) 0)
def spec_WordOfRuns.l0 : Nat → Bool → ByteArray → List Int → Int → Int → Option (ByteArray × Bool)
  | 0, _, _, _, _, _ => none
  | k + 1, x1, x6, x18, x19, x20 => if x20 < x19 then (if 0 ≤ x20 then (if x20 < (x18.length : Int) then (if x1 = true then ((spec_liTimes.f k (⟨#[84]⟩ : ByteArray) (rd x18 x20)).bind fun t105 => (if x6.size + t105.size ≤ 9223372036854775807 then (if ((x6 ++ t105).size : Int) > 40 then (some ((⟨#[]⟩ : ByteArray), false)) else (spec_WordOfRuns.l0 k (!x1) (x6 ++ t105) x18 x19 (wrap64 (x20 + 1)))) else (none))) else ((spec_liTimes.f k (⟨#[70]⟩ : ByteArray) (rd x18 x20)).bind fun t106 => (if x6.size + t106.size ≤ 9223372036854775807 then (if ((x6 ++ t106).size : Int) > 40 then (some ((⟨#[]⟩ : ByteArray), false)) else (spec_WordOfRuns.l0 k (!x1) (x6 ++ t106) x18 x19 (wrap64 (x20 + 1)))) else (none)))) else (none)) else (none)) else (some (x6, true))
end
def spec_WordOfRuns.f (k : Nat) (l0 : List Int) (a1 : Bool) : Option (ByteArray × Bool) := if (l0.length : Int) > 40 then (spec_WordOfRuns.j0 k l0 a1 true) else ((spec_l1All.f k l0 1 40).bind fun t103 => (spec_WordOfRuns.j0 k l0 a1 (!t103)))
theorem spec_WordOfRuns.mono_l : ∀ k, (∀ y0 y1 y2, LeO (spec_WordOfRuns.j0 k y0 y1 y2) (spec_WordOfRuns.j0 (k + 1) y0 y1 y2)) ∧ (∀ y0 y1 y2 y3 y4, LeO (spec_WordOfRuns.l0 k y0 y1 y2 y3 y4) (spec_WordOfRuns.l0 (k + 1) y0 y1 y2 y3 y4))
  | 0 => ⟨fun _ _ _ r h => by simp [spec_WordOfRuns.j0] at h, fun _ _ _ _ _ r h => by simp [spec_WordOfRuns.l0] at h⟩
  | k + 1 => by
    obtain ⟨ih0, ih1⟩ := spec_WordOfRuns.mono_l k
    refine ⟨?_, ?_⟩
    · intro y0 y1 y2
      unfold spec_WordOfRuns.j0
      repeat' first
      | (with_reducible exact ih0 _ _ _)
      | (with_reducible exact ih1 _ _ _ _ _)
      | (with_reducible exact spec_l1All.mono _ _ _ _)
      | (with_reducible exact spec_liTimes.mono _ _ _)
      | (with_reducible exact LeO.refl _)
      | (with_reducible exact LeO.none _)
      | (with_reducible refine LeO.ite ?_ ?_)
      | (with_reducible refine LeO.bind ?_ (fun _ => ?_))
      | exact ih0 _ _ _
      | exact ih1 _ _ _ _ _
      | exact spec_l1All.mono _ _ _ _
      | exact spec_liTimes.mono _ _ _
      | exact LeO.none _
      | refine LeO.ite ?_ ?_
      | refine LeO.bind ?_ (fun _ => ?_)
    · intro y0 y1 y2 y3 y4
      unfold spec_WordOfRuns.l0
      repeat' first
      | (with_reducible exact ih0 _ _ _)
      | (with_reducible exact ih1 _ _ _ _ _)
      | (with_reducible exact spec_l1All.mono _ _ _ _)
      | (with_reducible exact spec_liTimes.mono _ _ _)
      | (with_reducible exact LeO.refl _)
      | (with_reducible exact LeO.none _)
      | (with_reducible refine LeO.ite ?_ ?_)
      | (with_reducible refine LeO.bind ?_ (fun _ => ?_))
      | exact ih0 _ _ _
      | exact ih1 _ _ _ _ _
      | exact spec_l1All.mono _ _ _ _
      | exact spec_liTimes.mono _ _ _
      | exact LeO.none _
      | refine LeO.ite ?_ ?_
      | refine LeO.bind ?_ (fun _ => ?_)
theorem spec_WordOfRuns.mono : ∀ a0 a1 k, LeO (spec_WordOfRuns.f k a0 a1) (spec_WordOfRuns.f (k + 1) a0 a1) := by
  intro a0 a1 k
  obtain ⟨ih0, ih1⟩ := spec_WordOfRuns.mono_l k
  unfold spec_WordOfRuns.f
  repeat' first
      | (with_reducible exact ih0 _ _ _)
      | (with_reducible exact ih1 _ _ _ _ _)
      | (with_reducible exact spec_l1All.mono _ _ _ _)
      | (with_reducible exact spec_liTimes.mono _ _ _)
      | (with_reducible exact LeO.refl _)
      | (with_reducible exact LeO.none _)
      | (with_reducible refine LeO.ite ?_ ?_)
      | (with_reducible refine LeO.bind ?_ (fun _ => ?_))
      | exact ih0 _ _ _
      | exact ih1 _ _ _ _ _
      | exact spec_l1All.mono _ _ _ _
      | exact spec_liTimes.mono _ _ _
      | exact LeO.none _
      | refine LeO.ite ?_ ?_
      | refine LeO.bind ?_ (fun _ => ?_)
set_option maxHeartbeats 8000000 in
set_option maxRecDepth 100000 in
theorem spec_WordOfRuns.calls (k : Nat) (A0 : Option Addr) (c0 : Nat) (l0 : List Int) (a1 : Bool) (r1 : ByteArray) (r2 : Bool) (w : World) (hr0 : Kd.C (Kd.int .i64) w A0 l0.length l0) (hc0 : l0.length ≤ c0) (h : spec_WordOfRuns.f k l0 a1 = some (r1, r2)) :
    Calls Try.prog 18 #[.slice A0 l0.length c0, .bool a1] w fun e w' => e = .returned (.tuple #[.string r1, .bool r2]) ∧ Drawn0 w w' := by
  have HR0 := Aside0.mk hr0
  have HC0 := Aside0.mk hc0
  clear hr0 hc0
  have H : (if (l0.length : Int) > 40 then (spec_WordOfRuns.j0 k l0 a1 true) else ((spec_l1All.f k l0 1 40).bind fun t103 => (spec_WordOfRuns.j0 k l0 a1 (!t103)))) = some (r1, r2) := h
  clear h
  have HC3 := Aside0.mk H
  clear H
  go_enter Try.func18, Try.ntmps18
  go_upto_region 1 with (fail)
  go_cut [17] (fun v17 wc => ∃ (kq : Nat) (x17_2 : Bool), v17 = .bool x17_2 ∧ Aside0 (spec_WordOfRuns.j0 kq l0 a1 x17_2 = some (r1, r2)) ∧ Aside0 (kq ≤ k) ∧ Drawn0 w wc)
  case first =>
    have H := HC3.out
    clear HC3
    by_cases c4 : (l0.length : Int) > 40
    · rw [if_pos c4] at H
      have c4b0 : decide (40 < (l0.length : Int)) = true := decide_eq_true c4
      have c4b1 : decide (40 < l0.length) = true := decide_eq_true (by omega)
      clear c4
      (first | rw [c4b0] | (simp only [i64_w, i32_w]; rw [c4b0]) | skip)
      have H' := Aside0.mk H
      clear H
      go_wp2
      go_meet
      case rel => exact ⟨_, (true), (by first | rfl | (simp; done) | (simp [*]; done)), H', ⟨by first | omega | exact Nat.le_refl _⟩, by repeat (first | exact Drawn0.refl _ | apply Drawn0.step)⟩
    · rw [if_neg c4] at H
      have c4b0 : decide (40 < (l0.length : Int)) = false := decide_eq_false c4
      have c4b1 : decide (40 < l0.length) = false := decide_eq_false (by omega)
      clear c4
      (first | rw [c4b0] | (simp only [i64_w, i32_w]; rw [c4b0]) | skip)
      replace H := Option.bind_eq_some_iff.mp H
      obtain ⟨t103, A50, H⟩ := H
      replace H : (spec_WordOfRuns.j0 k l0 a1 (!t103)) = some (r1, r2) := H
      have A5 := Aside0.mk A50
      clear A50
      have H' := Aside0.mk H
      clear H
      go_wp2_with (first | (go_at_call 43; (with_reducible refine (spec_l1All.calls k _ _ l0 1 40 t103 _ ?side1 ?side2 A5.out).mono ?_); (case side1 => repeat (first | exact HR0.out | (with_reducible refine Kd.C_alloc ?_ _) | (with_reducible refine Kd.C_drewN ?_ _) | (with_reducible refine Kd.C_drew ?_))); (case side2 => exact HC0.out); rintro e w' ⟨rfl, ⟨nd, rfl⟩⟩))
      go_meet
      case rel => exact ⟨_, (!t103), (by first | rfl | (simp; done) | (simp [*]; done)), H', ⟨by first | omega | exact Nat.le_refl _⟩, by repeat (first | exact Drawn0.refl _ | apply Drawn0.step)⟩
  case rest =>
    clear HC3
    try clear c1
    try clear p2
    try clear c4
    try clear c4b0
    try clear c4b1
    obtain ⟨kq, x17_2, rfl, HA, HJ2, ⟨mc2, rfl⟩⟩ := hcut
    cases kq with
    | zero => exact absurd HA.out (by simp [spec_WordOfRuns.j0])
    | succ kj2 =>
      have H := HA.out
      clear HA
      simp only [spec_WordOfRuns.j0] at H
      by_cases c6 : x17_2 = true
      · subst c6
        have H1 : (some ((⟨#[]⟩ : ByteArray), false)) = some (r1, r2) := by rw [if_pos rfl] at H; exact H
        clear H
        have H := H1
        clear H1
        simp only [Option.some.injEq, Prod.mk.injEq] at H
        obtain ⟨rfl, rfl⟩ := H
        go_wp2
        go_ret2
        exact ⟨by first | rfl | (simp; done) | (simp [*]; done), by repeat (first | exact Drawn0.refl _ | apply Drawn0.step)⟩
      · replace c6 := Bool.eq_false_iff.mpr c6
        subst c6
        have H1 : (spec_WordOfRuns.l0 kj2 a1 (⟨#[]⟩ : ByteArray) l0 (l0.length : Int) 0) = some (r1, r2) := by rw [if_neg (show ¬ (false = true) by decide)] at H; exact H
        clear H
        have H := H1
        clear H1
        have H' := Aside0.mk H
        clear H
        go_wp2
        go_loopg [1, 6, 20] kj2 (fun kq v1 v6 v20 w' => ∃ (x1_2 : Bool) (x6_2 : ByteArray) (x20_2 : Int), v1 = .bool x1_2 ∧ v6 = .string x6_2 ∧ v20 = .int .i64 x20_2 ∧ Aside0 (spec_WordOfRuns.l0 kq x1_2 x6_2 l0 (l0.length : Int) x20_2 = some (r1, r2)) ∧ Aside0 (kq ≤ kj2) ∧ Drawn0 w w')
        case atStart => exact ⟨(a1), ((⟨#[]⟩ : ByteArray)), (0), (by first | rfl | (simp; done) | (simp [*]; done)), (by first | rfl | (simp; done) | (simp [*]; done)), (by first | rfl | (simp; done) | (simp [*]; done)), H', ⟨Nat.le_refl _⟩, by repeat (first | exact Drawn0.refl _ | apply Drawn0.step)⟩
        case round =>
          clear H'
          try clear c1
          try clear c2
          try clear p2
          try clear c4
          try clear c4b0
          try clear c4b1
          try clear c6
          try clear p2
          obtain ⟨x1_2, x6_2, x20_2, rfl, rfl, rfl, HA, HK2, ⟨m2, rfl⟩⟩ := hrel
          cases gk with
          | zero => exact absurd HA.out (by simp [spec_WordOfRuns.l0])
          | succ k2 =>
            have H := HA.out
            clear HA
            simp only [spec_WordOfRuns.l0] at H
            by_cases c7 : x20_2 < (l0.length : Int)
            · rw [if_pos c7] at H
              have c7b0 : decide (x20_2 < (l0.length : Int)) = true := decide_eq_true c7
              clear c7
              by_cases c8 : 0 ≤ x20_2
              · rw [if_pos c8] at H
                have c8b0 : decide (0 ≤ x20_2) = true := decide_eq_true c8
                clear c8
                by_cases c9 : x20_2 < (l0.length : Int)
                · rw [if_pos c9] at H
                  have c9b0 : decide (x20_2 < (l0.length : Int)) = true := decide_eq_true c9
                  clear c9
                  by_cases c10 : x1_2 = true
                  · subst c10
                    have H1 : ((spec_liTimes.f k2 (⟨#[84]⟩ : ByteArray) (rd l0 x20_2)).bind fun t105 => (if x6_2.size + t105.size ≤ 9223372036854775807 then (if ((x6_2 ++ t105).size : Int) > 40 then (some ((⟨#[]⟩ : ByteArray), false)) else (spec_WordOfRuns.l0 k2 (!true) (x6_2 ++ t105) l0 (l0.length : Int) (wrap64 (x20_2 + 1)))) else (none))) = some (r1, r2) := by rw [if_pos rfl] at H; exact H
                    clear H
                    have H := H1
                    clear H1
                    replace H := Option.bind_eq_some_iff.mp H
                    obtain ⟨t105, A110, H⟩ := H
                    replace H : (if x6_2.size + t105.size ≤ 9223372036854775807 then (if ((x6_2 ++ t105).size : Int) > 40 then (some ((⟨#[]⟩ : ByteArray), false)) else (spec_WordOfRuns.l0 k2 (!true) (x6_2 ++ t105) l0 (l0.length : Int) (wrap64 (x20_2 + 1)))) else (none)) = some (r1, r2) := H
                    have A11 := Aside0.mk A110
                    clear A110
                    by_cases c12 : x6_2.size + t105.size ≤ 9223372036854775807
                    · rw [if_pos c12] at H
                      have c12b0 := eq_true c12
                      have c12b1 : decide (x6_2.size + t105.size ≤ 9223372036854775807) = true := decide_eq_true c12
                      try have c12b2 : (9223372036854775807 < x6_2.size + t105.size) = False := eq_false (Nat.not_lt.2 c12)
                      by_cases c13 : ((x6_2 ++ t105).size : Int) > 40
                      · rw [if_pos c13] at H
                        have c13b0 : decide (40 < ((x6_2 ++ t105).size : Int)) = true := decide_eq_true c13
                        (try simp only [ByteArray.size_append, Int.natCast_add] at c13b0)
                        have c13b1 : decide (40 < (x6_2 ++ t105).size) = true := decide_eq_true (by omega)
                        (try simp only [ByteArray.size_append, Int.natCast_add] at c13b1)
                        clear c13
                        simp only [Option.some.injEq, Prod.mk.injEq] at H
                        obtain ⟨rfl, rfl⟩ := H
                        have p104 : 0 ≤ (x20_2 : Int) := of_decide_eq_true (by first | (with_reducible assumption) | assumption)
                        have q104 : x20_2 < (l0.length : Int) := of_decide_eq_true (by first | (with_reducible assumption) | assumption)
                        obtain ⟨ad104, e104, hx104_0⟩ := Kd.at_int HR0.out x20_2 p104 q104
                        cases e104
                        replace p104 := eq_true p104
                        replace q104 := eq_true q104
                        go_wp2_with (first | ((with_reducible refine gate_callee (f := 44) rfl ?_); refine goesL_ (some 30) rfl rfl Try.func44 (by kernel_rfl) rfl #[.string (⟨#[84]⟩ : ByteArray), .int .i64 (rd l0 x20_2)] rfl (by (try simp only [List.map_toArray, List.map_cons, List.map_nil]); first | done | rfl | (simp only [List.length_drop, List.length_take]; rfl)) ?_; (with_reducible refine (spec_liTimes.calls k2 (⟨#[84]⟩ : ByteArray) (rd l0 x20_2) t105 _ A11.out).mono ?_); rintro e w' ⟨rfl, ⟨nd, rfl⟩⟩; refine ⟨_, rfl, ?_⟩))
                        go_ret2
                        exact ⟨by first | rfl | (simp; done) | (simp [*]; done), by repeat (first | exact Drawn0.refl _ | apply Drawn0.step)⟩
                      · rw [if_neg c13] at H
                        have c13b0 : decide (40 < ((x6_2 ++ t105).size : Int)) = false := decide_eq_false c13
                        (try simp only [ByteArray.size_append, Int.natCast_add] at c13b0)
                        have c13b1 : decide (40 < (x6_2 ++ t105).size) = false := decide_eq_false (by omega)
                        (try simp only [ByteArray.size_append, Int.natCast_add] at c13b1)
                        clear c13
                        have H' := Aside0.mk H
                        clear H
                        have p104 : 0 ≤ (x20_2 : Int) := of_decide_eq_true (by first | (with_reducible assumption) | assumption)
                        have q104 : x20_2 < (l0.length : Int) := of_decide_eq_true (by first | (with_reducible assumption) | assumption)
                        obtain ⟨ad104, e104, hx104_0⟩ := Kd.at_int HR0.out x20_2 p104 q104
                        cases e104
                        replace p104 := eq_true p104
                        replace q104 := eq_true q104
                        go_wp2_with (first | ((with_reducible refine gate_callee (f := 44) rfl ?_); refine goesL_ (some 30) rfl rfl Try.func44 (by kernel_rfl) rfl #[.string (⟨#[84]⟩ : ByteArray), .int .i64 (rd l0 x20_2)] rfl (by (try simp only [List.map_toArray, List.map_cons, List.map_nil]); first | done | rfl | (simp only [List.length_drop, List.length_take]; rfl)) ?_; (with_reducible refine (spec_liTimes.calls k2 (⟨#[84]⟩ : ByteArray) (rd l0 x20_2) t105 _ A11.out).mono ?_); rintro e w' ⟨rfl, ⟨nd, rfl⟩⟩; refine ⟨_, rfl, ?_⟩))
                        go_roundg k2
                        case measure => have := HJ2.out; have := HK2.out; omega
                        case rel => exact ⟨(!true), (x6_2 ++ t105), (wrap64 (x20_2 + 1)), (by first | rfl | (simp; done) | (simp [*]; done)), (by first | rfl | (simp; done) | (simp [*]; done)), (by first | rfl | (simp; done) | (simp [*]; done)), H', ⟨by have := HJ2.out; have := HK2.out; omega⟩, by repeat (first | exact Drawn0.refl _ | apply Drawn0.step)⟩
                    · rw [if_neg c12] at H
                      exact absurd H (by simp)
                  · replace c10 := Bool.eq_false_iff.mpr c10
                    subst c10
                    have H1 : ((spec_liTimes.f k2 (⟨#[70]⟩ : ByteArray) (rd l0 x20_2)).bind fun t106 => (if x6_2.size + t106.size ≤ 9223372036854775807 then (if ((x6_2 ++ t106).size : Int) > 40 then (some ((⟨#[]⟩ : ByteArray), false)) else (spec_WordOfRuns.l0 k2 (!false) (x6_2 ++ t106) l0 (l0.length : Int) (wrap64 (x20_2 + 1)))) else (none))) = some (r1, r2) := by rw [if_neg (show ¬ (false = true) by decide)] at H; exact H
                    clear H
                    have H := H1
                    clear H1
                    replace H := Option.bind_eq_some_iff.mp H
                    obtain ⟨t106, A140, H⟩ := H
                    replace H : (if x6_2.size + t106.size ≤ 9223372036854775807 then (if ((x6_2 ++ t106).size : Int) > 40 then (some ((⟨#[]⟩ : ByteArray), false)) else (spec_WordOfRuns.l0 k2 (!false) (x6_2 ++ t106) l0 (l0.length : Int) (wrap64 (x20_2 + 1)))) else (none)) = some (r1, r2) := H
                    have A14 := Aside0.mk A140
                    clear A140
                    by_cases c15 : x6_2.size + t106.size ≤ 9223372036854775807
                    · rw [if_pos c15] at H
                      have c15b0 := eq_true c15
                      have c15b1 : decide (x6_2.size + t106.size ≤ 9223372036854775807) = true := decide_eq_true c15
                      try have c15b2 : (9223372036854775807 < x6_2.size + t106.size) = False := eq_false (Nat.not_lt.2 c15)
                      by_cases c16 : ((x6_2 ++ t106).size : Int) > 40
                      · rw [if_pos c16] at H
                        have c16b0 : decide (40 < ((x6_2 ++ t106).size : Int)) = true := decide_eq_true c16
                        (try simp only [ByteArray.size_append, Int.natCast_add] at c16b0)
                        have c16b1 : decide (40 < (x6_2 ++ t106).size) = true := decide_eq_true (by omega)
                        (try simp only [ByteArray.size_append, Int.natCast_add] at c16b1)
                        clear c16
                        simp only [Option.some.injEq, Prod.mk.injEq] at H
                        obtain ⟨rfl, rfl⟩ := H
                        have p104 : 0 ≤ (x20_2 : Int) := of_decide_eq_true (by first | (with_reducible assumption) | assumption)
                        have q104 : x20_2 < (l0.length : Int) := of_decide_eq_true (by first | (with_reducible assumption) | assumption)
                        obtain ⟨ad104, e104, hx104_0⟩ := Kd.at_int HR0.out x20_2 p104 q104
                        cases e104
                        replace p104 := eq_true p104
                        replace q104 := eq_true q104
                        go_wp2_with (first | ((with_reducible refine gate_callee (f := 44) rfl ?_); refine goesL_ (some 30) rfl rfl Try.func44 (by kernel_rfl) rfl #[.string (⟨#[70]⟩ : ByteArray), .int .i64 (rd l0 x20_2)] rfl (by (try simp only [List.map_toArray, List.map_cons, List.map_nil]); first | done | rfl | (simp only [List.length_drop, List.length_take]; rfl)) ?_; (with_reducible refine (spec_liTimes.calls k2 (⟨#[70]⟩ : ByteArray) (rd l0 x20_2) t106 _ A14.out).mono ?_); rintro e w' ⟨rfl, ⟨nd, rfl⟩⟩; refine ⟨_, rfl, ?_⟩))
                        go_ret2
                        exact ⟨by first | rfl | (simp; done) | (simp [*]; done), by repeat (first | exact Drawn0.refl _ | apply Drawn0.step)⟩
                      · rw [if_neg c16] at H
                        have c16b0 : decide (40 < ((x6_2 ++ t106).size : Int)) = false := decide_eq_false c16
                        (try simp only [ByteArray.size_append, Int.natCast_add] at c16b0)
                        have c16b1 : decide (40 < (x6_2 ++ t106).size) = false := decide_eq_false (by omega)
                        (try simp only [ByteArray.size_append, Int.natCast_add] at c16b1)
                        clear c16
                        have H' := Aside0.mk H
                        clear H
                        have p104 : 0 ≤ (x20_2 : Int) := of_decide_eq_true (by first | (with_reducible assumption) | assumption)
                        have q104 : x20_2 < (l0.length : Int) := of_decide_eq_true (by first | (with_reducible assumption) | assumption)
                        obtain ⟨ad104, e104, hx104_0⟩ := Kd.at_int HR0.out x20_2 p104 q104
                        cases e104
                        replace p104 := eq_true p104
                        replace q104 := eq_true q104
                        go_wp2_with (first | ((with_reducible refine gate_callee (f := 44) rfl ?_); refine goesL_ (some 30) rfl rfl Try.func44 (by kernel_rfl) rfl #[.string (⟨#[70]⟩ : ByteArray), .int .i64 (rd l0 x20_2)] rfl (by (try simp only [List.map_toArray, List.map_cons, List.map_nil]); first | done | rfl | (simp only [List.length_drop, List.length_take]; rfl)) ?_; (with_reducible refine (spec_liTimes.calls k2 (⟨#[70]⟩ : ByteArray) (rd l0 x20_2) t106 _ A14.out).mono ?_); rintro e w' ⟨rfl, ⟨nd, rfl⟩⟩; refine ⟨_, rfl, ?_⟩))
                        go_roundg k2
                        case measure => have := HJ2.out; have := HK2.out; omega
                        case rel => exact ⟨(!false), (x6_2 ++ t106), (wrap64 (x20_2 + 1)), (by first | rfl | (simp; done) | (simp [*]; done)), (by first | rfl | (simp; done) | (simp [*]; done)), (by first | rfl | (simp; done) | (simp [*]; done)), H', ⟨by have := HJ2.out; have := HK2.out; omega⟩, by repeat (first | exact Drawn0.refl _ | apply Drawn0.step)⟩
                    · rw [if_neg c15] at H
                      exact absurd H (by simp)
                · rw [if_neg c9] at H
                  exact absurd H (by simp)
              · rw [if_neg c8] at H
                exact absurd H (by simp)
            · rw [if_neg c7] at H
              have c7b0 : decide (x20_2 < (l0.length : Int)) = false := decide_eq_false c7
              clear c7
              simp only [Option.some.injEq, Prod.mk.injEq] at H
              obtain ⟨rfl, rfl⟩ := H
              go_wp2
              go_ret2
              exact ⟨by first | rfl | (simp; done) | (simp [*]; done), by repeat (first | exact Drawn0.refl _ | apply Drawn0.step)⟩

end Go.Proofs.Ytpelhinjoambfaa.XA
