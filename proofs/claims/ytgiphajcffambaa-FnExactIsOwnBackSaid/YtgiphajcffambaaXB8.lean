/- The Lean functions that the Go functions of this seat compute, each with the proof that the Go function computes it, for every input (laws: FnExactBackExchange, FnExactIsOwnBack). Conditions: none beyond those that each theorem names. Written by a program of this session over the kit's printer. -/
import Derived.Test.YtgiphajcffambaaXB0
import Derived.Test.YtgiphajcffambaaXB2
namespace Go.Proofs.Ytgiphajcffambaa.XB
open Go.RowKit Go.Proofs.YtgiphajcffambaaW.PrintWords Go.Proofs.YtgiphajcffambaaW.PrintLast Go.Proofs.YtgiphajcffambaaW.PrintMore
attribute [local go_sem] max2_int min2_int max_two min_two max_three min_three max_four min_four   -- for this text's walks alone
attribute [local go_sem] Lib.run_min_strs Go.Proofs.YtgiphajcffambaaXW.run_min2_strs Go.Proofs.YtgiphajcffambaaXW.run_int_string
set_option linter.unusedVariables false
set_option linter.unusedSimpArgs false

/-! ### spec_liFirst: function 31 -/
def spec_liFirst.f (k : Nat) (a0 : Int) (a1 : Int) (a2 : Int) : Option (ByteArray) := (spec_liTimes.f k (⟨#[84]⟩ : ByteArray) a0).bind fun t134 => ((spec_liTimes.f k (⟨#[46]⟩ : ByteArray) a1).bind fun t135 => (if t134.size + t135.size ≤ 9223372036854775807 then ((spec_liTimes.f k (⟨#[70]⟩ : ByteArray) a2).bind fun t136 => (if (t134 ++ t135).size + t136.size ≤ 9223372036854775807 then (some ((t134 ++ t135) ++ t136)) else (none))) else (none)))
theorem spec_liFirst.mono : ∀ a0 a1 a2 k, LeO (spec_liFirst.f k a0 a1 a2) (spec_liFirst.f (k + 1) a0 a1 a2) := by
  intro a0 a1 a2 k
  unfold spec_liFirst.f
  repeat' first
      | (with_reducible exact spec_liTimes.mono _ _ _)
      | (with_reducible exact LeO.refl _)
      | (with_reducible exact LeO.none _)
      | (with_reducible refine LeO.ite ?_ ?_)
      | (with_reducible refine LeO.bind ?_ (fun _ => ?_))
      | exact spec_liTimes.mono _ _ _
      | exact LeO.none _
      | refine LeO.ite ?_ ?_
      | refine LeO.bind ?_ (fun _ => ?_)
set_option maxHeartbeats 8000000 in
set_option maxRecDepth 100000 in
theorem spec_liFirst.calls (k : Nat) (a0 : Int) (a1 : Int) (a2 : Int) (r : ByteArray) (w : World) (h : spec_liFirst.f k a0 a1 a2 = some r) :
    Calls Try.prog 31 #[.int .i64 a0, .int .i64 a1, .int .i64 a2] w fun e w' => e = .returned (.string r) ∧ Drawn0 w w' := by
  have H : ((spec_liTimes.f k (⟨#[84]⟩ : ByteArray) a0).bind fun t134 => ((spec_liTimes.f k (⟨#[46]⟩ : ByteArray) a1).bind fun t135 => (if t134.size + t135.size ≤ 9223372036854775807 then ((spec_liTimes.f k (⟨#[70]⟩ : ByteArray) a2).bind fun t136 => (if (t134 ++ t135).size + t136.size ≤ 9223372036854775807 then (some ((t134 ++ t135) ++ t136)) else (none))) else (none)))) = some r := h
  clear h
  replace H := Option.bind_eq_some_iff.mp H
  obtain ⟨t134, A40, H⟩ := H
  replace H : ((spec_liTimes.f k (⟨#[46]⟩ : ByteArray) a1).bind fun t135 => (if t134.size + t135.size ≤ 9223372036854775807 then ((spec_liTimes.f k (⟨#[70]⟩ : ByteArray) a2).bind fun t136 => (if (t134 ++ t135).size + t136.size ≤ 9223372036854775807 then (some ((t134 ++ t135) ++ t136)) else (none))) else (none))) = some r := H
  have A4 := Aside0.mk A40
  clear A40
  replace H := Option.bind_eq_some_iff.mp H
  obtain ⟨t135, A50, H⟩ := H
  replace H : (if t134.size + t135.size ≤ 9223372036854775807 then ((spec_liTimes.f k (⟨#[70]⟩ : ByteArray) a2).bind fun t136 => (if (t134 ++ t135).size + t136.size ≤ 9223372036854775807 then (some ((t134 ++ t135) ++ t136)) else (none))) else (none)) = some r := H
  have A5 := Aside0.mk A50
  clear A50
  by_cases c6 : t134.size + t135.size ≤ 9223372036854775807
  · rw [if_pos c6] at H
    have c6b0 := eq_true c6
    have c6b1 : decide (t134.size + t135.size ≤ 9223372036854775807) = true := decide_eq_true c6
    try have c6b2 : (9223372036854775807 < t134.size + t135.size) = False := eq_false (Nat.not_lt.2 c6)
    replace H := Option.bind_eq_some_iff.mp H
    obtain ⟨t136, A70, H⟩ := H
    replace H : (if (t134 ++ t135).size + t136.size ≤ 9223372036854775807 then (some ((t134 ++ t135) ++ t136)) else (none)) = some r := H
    have A7 := Aside0.mk A70
    clear A70
    by_cases c8 : (t134 ++ t135).size + t136.size ≤ 9223372036854775807
    · rw [if_pos c8] at H
      have c8b0 := eq_true c8
      have c8b1 : decide ((t134 ++ t135).size + t136.size ≤ 9223372036854775807) = true := decide_eq_true c8
      (try simp only [ByteArray.size_append, Int.natCast_add] at c8b1)
      try have c8b2 : (9223372036854775807 < (t134 ++ t135).size + t136.size) = False := eq_false (Nat.not_lt.2 c8)
      (try simp only [ByteArray.size_append] at c8b0)
      (try simp only [ByteArray.size_append] at c8b1)
      (try simp only [ByteArray.size_append] at c8b2)
      obtain rfl := Option.some.inj H
      go_enter Try.func31, Try.ntmps31
      go_wp2_with (first | ((with_reducible refine gate_callee (f := 43) rfl ?_); refine goesL_ (some 8) rfl rfl Try.func43 (by kernel_rfl) rfl #[.string (⟨#[84]⟩ : ByteArray), .int .i64 a0] rfl (by (try simp only [List.map_toArray, List.map_cons, List.map_nil]); first | done | rfl | (simp only [List.length_drop, List.length_take]; rfl)) ?_; (with_reducible refine (spec_liTimes.calls k (⟨#[84]⟩ : ByteArray) a0 t134 _ A4.out).mono ?_); rintro e w' ⟨rfl, ⟨nd, rfl⟩⟩; refine ⟨_, rfl, ?_⟩) | ((with_reducible refine gate_callee (f := 43) rfl ?_); refine goesL_ (some 10) rfl rfl Try.func43 (by kernel_rfl) rfl #[.string (⟨#[46]⟩ : ByteArray), .int .i64 a1] rfl (by (try simp only [List.map_toArray, List.map_cons, List.map_nil]); first | done | rfl | (simp only [List.length_drop, List.length_take]; rfl)) ?_; (with_reducible refine (spec_liTimes.calls k (⟨#[46]⟩ : ByteArray) a1 t135 _ A5.out).mono ?_); rintro e w' ⟨rfl, ⟨nd, rfl⟩⟩; refine ⟨_, rfl, ?_⟩) | ((with_reducible refine gate_callee (f := 43) rfl ?_); refine goesL_ (some 13) rfl rfl Try.func43 (by kernel_rfl) rfl #[.string (⟨#[70]⟩ : ByteArray), .int .i64 a2] rfl (by (try simp only [List.map_toArray, List.map_cons, List.map_nil]); first | done | rfl | (simp only [List.length_drop, List.length_take]; rfl)) ?_; (with_reducible refine (spec_liTimes.calls k (⟨#[70]⟩ : ByteArray) a2 t136 _ A7.out).mono ?_); rintro e w' ⟨rfl, ⟨nd, rfl⟩⟩; refine ⟨_, rfl, ?_⟩))
      go_ret
      exact ⟨by first | rfl | (simp; done) | (simp [*]; done), by repeat (first | exact Drawn0.refl _ | apply Drawn0.step)⟩
    · rw [if_neg c8] at H
      exact absurd H (by simp)
  · rw [if_neg c6] at H
    exact absurd H (by simp)

/-! ### spec_liLast: function 32 -/
def spec_liLast.f (k : Nat) (a0 : ByteArray) : Option (ByteArray) := (spec_liCount.f k a0 70).bind fun t137 => ((spec_liTimes.f k (⟨#[70]⟩ : ByteArray) t137).bind fun t138 => ((spec_liCount.f k a0 46).bind fun t139 => ((spec_liTimes.f k (⟨#[46]⟩ : ByteArray) t139).bind fun t140 => (if t138.size + t140.size ≤ 9223372036854775807 then ((spec_liCount.f k a0 84).bind fun t141 => ((spec_liTimes.f k (⟨#[84]⟩ : ByteArray) t141).bind fun t142 => (if (t138 ++ t140).size + t142.size ≤ 9223372036854775807 then (some ((t138 ++ t140) ++ t142)) else (none)))) else (none)))))
theorem spec_liLast.mono : ∀ a0 k, LeO (spec_liLast.f k a0) (spec_liLast.f (k + 1) a0) := by
  intro a0 k
  unfold spec_liLast.f
  repeat' first
      | (with_reducible exact spec_liCount.mono _ _ _)
      | (with_reducible exact spec_liTimes.mono _ _ _)
      | (with_reducible exact LeO.refl _)
      | (with_reducible exact LeO.none _)
      | (with_reducible refine LeO.ite ?_ ?_)
      | (with_reducible refine LeO.bind ?_ (fun _ => ?_))
      | exact spec_liCount.mono _ _ _
      | exact spec_liTimes.mono _ _ _
      | exact LeO.none _
      | refine LeO.ite ?_ ?_
      | refine LeO.bind ?_ (fun _ => ?_)
set_option maxHeartbeats 8000000 in
set_option maxRecDepth 100000 in
theorem spec_liLast.calls (k : Nat) (a0 : ByteArray) (r : ByteArray) (w : World) (h : spec_liLast.f k a0 = some r) :
    Calls Try.prog 32 #[.string a0] w fun e w' => e = .returned (.string r) ∧ Drawn0 w w' := by
  have H : ((spec_liCount.f k a0 70).bind fun t137 => ((spec_liTimes.f k (⟨#[70]⟩ : ByteArray) t137).bind fun t138 => ((spec_liCount.f k a0 46).bind fun t139 => ((spec_liTimes.f k (⟨#[46]⟩ : ByteArray) t139).bind fun t140 => (if t138.size + t140.size ≤ 9223372036854775807 then ((spec_liCount.f k a0 84).bind fun t141 => ((spec_liTimes.f k (⟨#[84]⟩ : ByteArray) t141).bind fun t142 => (if (t138 ++ t140).size + t142.size ≤ 9223372036854775807 then (some ((t138 ++ t140) ++ t142)) else (none)))) else (none)))))) = some r := h
  clear h
  replace H := Option.bind_eq_some_iff.mp H
  obtain ⟨t137, A20, H⟩ := H
  replace H : ((spec_liTimes.f k (⟨#[70]⟩ : ByteArray) t137).bind fun t138 => ((spec_liCount.f k a0 46).bind fun t139 => ((spec_liTimes.f k (⟨#[46]⟩ : ByteArray) t139).bind fun t140 => (if t138.size + t140.size ≤ 9223372036854775807 then ((spec_liCount.f k a0 84).bind fun t141 => ((spec_liTimes.f k (⟨#[84]⟩ : ByteArray) t141).bind fun t142 => (if (t138 ++ t140).size + t142.size ≤ 9223372036854775807 then (some ((t138 ++ t140) ++ t142)) else (none)))) else (none))))) = some r := H
  have A2 := Aside0.mk A20
  clear A20
  replace H := Option.bind_eq_some_iff.mp H
  obtain ⟨t138, A30, H⟩ := H
  replace H : ((spec_liCount.f k a0 46).bind fun t139 => ((spec_liTimes.f k (⟨#[46]⟩ : ByteArray) t139).bind fun t140 => (if t138.size + t140.size ≤ 9223372036854775807 then ((spec_liCount.f k a0 84).bind fun t141 => ((spec_liTimes.f k (⟨#[84]⟩ : ByteArray) t141).bind fun t142 => (if (t138 ++ t140).size + t142.size ≤ 9223372036854775807 then (some ((t138 ++ t140) ++ t142)) else (none)))) else (none)))) = some r := H
  have A3 := Aside0.mk A30
  clear A30
  replace H := Option.bind_eq_some_iff.mp H
  obtain ⟨t139, A40, H⟩ := H
  replace H : ((spec_liTimes.f k (⟨#[46]⟩ : ByteArray) t139).bind fun t140 => (if t138.size + t140.size ≤ 9223372036854775807 then ((spec_liCount.f k a0 84).bind fun t141 => ((spec_liTimes.f k (⟨#[84]⟩ : ByteArray) t141).bind fun t142 => (if (t138 ++ t140).size + t142.size ≤ 9223372036854775807 then (some ((t138 ++ t140) ++ t142)) else (none)))) else (none))) = some r := H
  have A4 := Aside0.mk A40
  clear A40
  replace H := Option.bind_eq_some_iff.mp H
  obtain ⟨t140, A50, H⟩ := H
  replace H : (if t138.size + t140.size ≤ 9223372036854775807 then ((spec_liCount.f k a0 84).bind fun t141 => ((spec_liTimes.f k (⟨#[84]⟩ : ByteArray) t141).bind fun t142 => (if (t138 ++ t140).size + t142.size ≤ 9223372036854775807 then (some ((t138 ++ t140) ++ t142)) else (none)))) else (none)) = some r := H
  have A5 := Aside0.mk A50
  clear A50
  by_cases c6 : t138.size + t140.size ≤ 9223372036854775807
  · rw [if_pos c6] at H
    have c6b0 := eq_true c6
    have c6b1 : decide (t138.size + t140.size ≤ 9223372036854775807) = true := decide_eq_true c6
    try have c6b2 : (9223372036854775807 < t138.size + t140.size) = False := eq_false (Nat.not_lt.2 c6)
    replace H := Option.bind_eq_some_iff.mp H
    obtain ⟨t141, A70, H⟩ := H
    replace H : ((spec_liTimes.f k (⟨#[84]⟩ : ByteArray) t141).bind fun t142 => (if (t138 ++ t140).size + t142.size ≤ 9223372036854775807 then (some ((t138 ++ t140) ++ t142)) else (none))) = some r := H
    have A7 := Aside0.mk A70
    clear A70
    replace H := Option.bind_eq_some_iff.mp H
    obtain ⟨t142, A80, H⟩ := H
    replace H : (if (t138 ++ t140).size + t142.size ≤ 9223372036854775807 then (some ((t138 ++ t140) ++ t142)) else (none)) = some r := H
    have A8 := Aside0.mk A80
    clear A80
    by_cases c9 : (t138 ++ t140).size + t142.size ≤ 9223372036854775807
    · rw [if_pos c9] at H
      have c9b0 := eq_true c9
      have c9b1 : decide ((t138 ++ t140).size + t142.size ≤ 9223372036854775807) = true := decide_eq_true c9
      (try simp only [ByteArray.size_append, Int.natCast_add] at c9b1)
      try have c9b2 : (9223372036854775807 < (t138 ++ t140).size + t142.size) = False := eq_false (Nat.not_lt.2 c9)
      (try simp only [ByteArray.size_append] at c9b0)
      (try simp only [ByteArray.size_append] at c9b1)
      (try simp only [ByteArray.size_append] at c9b2)
      obtain rfl := Option.some.inj H
      go_enter Try.func32, Try.ntmps32
      go_wp2_with (first | ((with_reducible refine gate_callee (f := 44) rfl ?_); refine goesL_ (some 4) rfl rfl Try.func44 (by kernel_rfl) rfl #[.string a0, .int .u8 70] rfl (by (try simp only [List.map_toArray, List.map_cons, List.map_nil]); first | done | rfl | (simp only [List.length_drop, List.length_take]; rfl)) ?_; (with_reducible refine (spec_liCount.calls k a0 70 t137 _ A2.out).mono ?_); rintro e w' ⟨rfl, ⟨nd, rfl⟩⟩; refine ⟨_, rfl, ?_⟩) | ((with_reducible refine gate_callee (f := 43) rfl ?_); refine goesL_ (some 5) rfl rfl Try.func43 (by kernel_rfl) rfl #[.string (⟨#[70]⟩ : ByteArray), .int .i64 t137] rfl (by (try simp only [List.map_toArray, List.map_cons, List.map_nil]); first | done | rfl | (simp only [List.length_drop, List.length_take]; rfl)) ?_; (with_reducible refine (spec_liTimes.calls k (⟨#[70]⟩ : ByteArray) t137 t138 _ A3.out).mono ?_); rintro e w' ⟨rfl, ⟨nd, rfl⟩⟩; refine ⟨_, rfl, ?_⟩) | ((with_reducible refine gate_callee (f := 44) rfl ?_); refine goesL_ (some 7) rfl rfl Try.func44 (by kernel_rfl) rfl #[.string a0, .int .u8 46] rfl (by (try simp only [List.map_toArray, List.map_cons, List.map_nil]); first | done | rfl | (simp only [List.length_drop, List.length_take]; rfl)) ?_; (with_reducible refine (spec_liCount.calls k a0 46 t139 _ A4.out).mono ?_); rintro e w' ⟨rfl, ⟨nd, rfl⟩⟩; refine ⟨_, rfl, ?_⟩) | ((with_reducible refine gate_callee (f := 43) rfl ?_); refine goesL_ (some 8) rfl rfl Try.func43 (by kernel_rfl) rfl #[.string (⟨#[46]⟩ : ByteArray), .int .i64 t139] rfl (by (try simp only [List.map_toArray, List.map_cons, List.map_nil]); first | done | rfl | (simp only [List.length_drop, List.length_take]; rfl)) ?_; (with_reducible refine (spec_liTimes.calls k (⟨#[46]⟩ : ByteArray) t139 t140 _ A5.out).mono ?_); rintro e w' ⟨rfl, ⟨nd, rfl⟩⟩; refine ⟨_, rfl, ?_⟩) | ((with_reducible refine gate_callee (f := 44) rfl ?_); refine goesL_ (some 11) rfl rfl Try.func44 (by kernel_rfl) rfl #[.string a0, .int .u8 84] rfl (by (try simp only [List.map_toArray, List.map_cons, List.map_nil]); first | done | rfl | (simp only [List.length_drop, List.length_take]; rfl)) ?_; (with_reducible refine (spec_liCount.calls k a0 84 t141 _ A7.out).mono ?_); rintro e w' ⟨rfl, ⟨nd, rfl⟩⟩; refine ⟨_, rfl, ?_⟩) | ((with_reducible refine gate_callee (f := 43) rfl ?_); refine goesL_ (some 12) rfl rfl Try.func43 (by kernel_rfl) rfl #[.string (⟨#[84]⟩ : ByteArray), .int .i64 t141] rfl (by (try simp only [List.map_toArray, List.map_cons, List.map_nil]); first | done | rfl | (simp only [List.length_drop, List.length_take]; rfl)) ?_; (with_reducible refine (spec_liTimes.calls k (⟨#[84]⟩ : ByteArray) t141 t142 _ A8.out).mono ?_); rintro e w' ⟨rfl, ⟨nd, rfl⟩⟩; refine ⟨_, rfl, ?_⟩))
      go_ret
      exact ⟨by first | rfl | (simp; done) | (simp [*]; done), by repeat (first | exact Drawn0.refl _ | apply Drawn0.step)⟩
    · rw [if_neg c9] at H
      exact absurd H (by simp)
  · rw [if_neg c6] at H
    exact absurd H (by simp)

end Go.Proofs.Ytgiphajcffambaa.XB
