/- The Lean functions that the Go functions of this seat compute, each with the proof that the Go function computes it, for every input (laws: FnExactLineOfRank). Conditions: none beyond those that each theorem names. Written by a program of this session over the kit's printer. -/
import Derived.Test.YtpelhinjoambfaaXR0
import Derived.Test.YtpelhinjoambfaaXR1
namespace Go.Proofs.Ytpelhinjoambfaa.XR
open Go.RowKit Go.Proofs.YtpelhinjoambfaaW.PrintWords Go.Proofs.YtpelhinjoambfaaW.PrintLast Go.Proofs.YtpelhinjoambfaaW.PrintMore
attribute [local go_sem] max2_int min2_int max_two min_two max_three min_three max_four min_four   -- for this text's walks alone
attribute [local go_sem] Lib.run_min_strs Go.Proofs.YtpelhinjoambfaaXW.run_min2_strs Go.Proofs.YtpelhinjoambfaaXW.run_int_string
set_option linter.unusedVariables false
set_option linter.unusedSimpArgs false

/-! ### impl_areCounts: function 27 -/
def impl_areCounts.f (a0 : Int) (a1 : Int) (a2 : Int) (a3 : Int) : Option (Bool) := (impl_within.f a0 0 a3).bind fun t113 => (if t113 = true then ((impl_within.f a1 0 a3).bind fun t114 => (if t114 = true then ((impl_within.f a2 0 a3).bind fun t115 => (if t115 = true then ((impl_within.f (wrap64 ((wrap64 (a0 + a1)) + a2)) 1 a3).bind fun t116 => (some t116)) else (some false))) else (some false))) else (some false))
set_option maxHeartbeats 8000000 in
set_option maxRecDepth 100000 in
theorem impl_areCounts.calls (a0 : Int) (a1 : Int) (a2 : Int) (a3 : Int) (r : Bool) (w : World) (h : impl_areCounts.f a0 a1 a2 a3 = some r) :
    Calls Try.prog 27 #[.int .i64 a0, .int .i64 a1, .int .i64 a2, .int .i64 a3] w fun e w' => e = .returned (.bool r) ∧ Drawn0 w w' := by
  have H : ((impl_within.f a0 0 a3).bind fun t113 => (if t113 = true then ((impl_within.f a1 0 a3).bind fun t114 => (if t114 = true then ((impl_within.f a2 0 a3).bind fun t115 => (if t115 = true then ((impl_within.f (wrap64 ((wrap64 (a0 + a1)) + a2)) 1 a3).bind fun t116 => (some t116)) else (some false))) else (some false))) else (some false))) = some r := h
  clear h
  replace H := Option.bind_eq_some_iff.mp H
  obtain ⟨t113, A50, H⟩ := H
  replace H : (if t113 = true then ((impl_within.f a1 0 a3).bind fun t114 => (if t114 = true then ((impl_within.f a2 0 a3).bind fun t115 => (if t115 = true then ((impl_within.f (wrap64 ((wrap64 (a0 + a1)) + a2)) 1 a3).bind fun t116 => (some t116)) else (some false))) else (some false))) else (some false)) = some r := H
  have A5 := Aside0.mk A50
  clear A50
  by_cases c6 : t113 = true
  · subst c6
    have H1 : ((impl_within.f a1 0 a3).bind fun t114 => (if t114 = true then ((impl_within.f a2 0 a3).bind fun t115 => (if t115 = true then ((impl_within.f (wrap64 ((wrap64 (a0 + a1)) + a2)) 1 a3).bind fun t116 => (some t116)) else (some false))) else (some false))) = some r := by rw [if_pos rfl] at H; exact H
    clear H
    have H := H1
    clear H1
    replace H := Option.bind_eq_some_iff.mp H
    obtain ⟨t114, A70, H⟩ := H
    replace H : (if t114 = true then ((impl_within.f a2 0 a3).bind fun t115 => (if t115 = true then ((impl_within.f (wrap64 ((wrap64 (a0 + a1)) + a2)) 1 a3).bind fun t116 => (some t116)) else (some false))) else (some false)) = some r := H
    have A7 := Aside0.mk A70
    clear A70
    by_cases c8 : t114 = true
    · subst c8
      have H1 : ((impl_within.f a2 0 a3).bind fun t115 => (if t115 = true then ((impl_within.f (wrap64 ((wrap64 (a0 + a1)) + a2)) 1 a3).bind fun t116 => (some t116)) else (some false))) = some r := by rw [if_pos rfl] at H; exact H
      clear H
      have H := H1
      clear H1
      replace H := Option.bind_eq_some_iff.mp H
      obtain ⟨t115, A90, H⟩ := H
      replace H : (if t115 = true then ((impl_within.f (wrap64 ((wrap64 (a0 + a1)) + a2)) 1 a3).bind fun t116 => (some t116)) else (some false)) = some r := H
      have A9 := Aside0.mk A90
      clear A90
      by_cases c10 : t115 = true
      · subst c10
        have H1 : ((impl_within.f (wrap64 ((wrap64 (a0 + a1)) + a2)) 1 a3).bind fun t116 => (some t116)) = some r := by rw [if_pos rfl] at H; exact H
        clear H
        have H := H1
        clear H1
        replace H := Option.bind_eq_some_iff.mp H
        obtain ⟨t116, A110, H⟩ := H
        replace H : (some t116) = some r := H
        have A11 := Aside0.mk A110
        clear A110
        obtain rfl := Option.some.inj H
        go_enter Try.func27, Try.ntmps27
        go_wp2_with (first | ((with_reducible refine gate_callee (f := 28) rfl ?_); refine goesL_ (some 11) rfl rfl Try.func28 (by kernel_rfl) rfl #[.int .i64 a0, .int .i64 0, .int .i64 a3] rfl (by (try simp only [List.map_toArray, List.map_cons, List.map_nil]); first | done | rfl | (simp only [List.length_drop, List.length_take]; rfl)) ?_; (with_reducible refine (impl_within.calls a0 0 a3 true _ A5.out).mono ?_); rintro e w' ⟨rfl, ⟨nd, rfl⟩⟩; refine ⟨_, rfl, ?_⟩) | (go_at_call 28; (with_reducible refine (impl_within.calls a1 0 a3 true _ A7.out).mono ?_); rintro e w' ⟨rfl, ⟨nd, rfl⟩⟩) | (go_at_call 28; (with_reducible refine (impl_within.calls a2 0 a3 true _ A9.out).mono ?_); rintro e w' ⟨rfl, ⟨nd, rfl⟩⟩) | (go_at_call 28; (try refine Go.Proofs.YtpelhinjoambfaaXW.calls_args64 (by simp only [Go.Proofs.YtpelhinjoambfaaXW.wrapEq]; rfl) ?_); (with_reducible refine (impl_within.calls (wrap64 ((wrap64 (a0 + a1)) + a2)) 1 a3 t116 _ A11.out).mono ?_); rintro e w' ⟨rfl, ⟨nd, rfl⟩⟩))
        go_ret
        exact ⟨by first | rfl | (simp; done) | (simp [*]; done), by repeat (first | exact Drawn0.refl _ | apply Drawn0.step)⟩
      · replace c10 := Bool.eq_false_iff.mpr c10
        subst c10
        have H1 : (some false) = some r := by rw [if_neg (show ¬ (false = true) by decide)] at H; exact H
        clear H
        have H := H1
        clear H1
        obtain rfl := Option.some.inj H
        go_enter Try.func27, Try.ntmps27
        go_wp2_with (first | ((with_reducible refine gate_callee (f := 28) rfl ?_); refine goesL_ (some 11) rfl rfl Try.func28 (by kernel_rfl) rfl #[.int .i64 a0, .int .i64 0, .int .i64 a3] rfl (by (try simp only [List.map_toArray, List.map_cons, List.map_nil]); first | done | rfl | (simp only [List.length_drop, List.length_take]; rfl)) ?_; (with_reducible refine (impl_within.calls a0 0 a3 true _ A5.out).mono ?_); rintro e w' ⟨rfl, ⟨nd, rfl⟩⟩; refine ⟨_, rfl, ?_⟩) | (go_at_call 28; (with_reducible refine (impl_within.calls a1 0 a3 true _ A7.out).mono ?_); rintro e w' ⟨rfl, ⟨nd, rfl⟩⟩) | (go_at_call 28; (with_reducible refine (impl_within.calls a2 0 a3 false _ A9.out).mono ?_); rintro e w' ⟨rfl, ⟨nd, rfl⟩⟩))
        go_ret
        exact ⟨by first | rfl | (simp; done) | (simp [*]; done), by repeat (first | exact Drawn0.refl _ | apply Drawn0.step)⟩
    · replace c8 := Bool.eq_false_iff.mpr c8
      subst c8
      have H1 : (some false) = some r := by rw [if_neg (show ¬ (false = true) by decide)] at H; exact H
      clear H
      have H := H1
      clear H1
      obtain rfl := Option.some.inj H
      go_enter Try.func27, Try.ntmps27
      go_wp2_with (first | ((with_reducible refine gate_callee (f := 28) rfl ?_); refine goesL_ (some 11) rfl rfl Try.func28 (by kernel_rfl) rfl #[.int .i64 a0, .int .i64 0, .int .i64 a3] rfl (by (try simp only [List.map_toArray, List.map_cons, List.map_nil]); first | done | rfl | (simp only [List.length_drop, List.length_take]; rfl)) ?_; (with_reducible refine (impl_within.calls a0 0 a3 true _ A5.out).mono ?_); rintro e w' ⟨rfl, ⟨nd, rfl⟩⟩; refine ⟨_, rfl, ?_⟩) | (go_at_call 28; (with_reducible refine (impl_within.calls a1 0 a3 false _ A7.out).mono ?_); rintro e w' ⟨rfl, ⟨nd, rfl⟩⟩))
      go_ret
      exact ⟨by first | rfl | (simp; done) | (simp [*]; done), by repeat (first | exact Drawn0.refl _ | apply Drawn0.step)⟩
  · replace c6 := Bool.eq_false_iff.mpr c6
    subst c6
    have H1 : (some false) = some r := by rw [if_neg (show ¬ (false = true) by decide)] at H; exact H
    clear H
    have H := H1
    clear H1
    obtain rfl := Option.some.inj H
    go_enter Try.func27, Try.ntmps27
    go_wp2_with (first | ((with_reducible refine gate_callee (f := 28) rfl ?_); refine goesL_ (some 11) rfl rfl Try.func28 (by kernel_rfl) rfl #[.int .i64 a0, .int .i64 0, .int .i64 a3] rfl (by (try simp only [List.map_toArray, List.map_cons, List.map_nil]); first | done | rfl | (simp only [List.length_drop, List.length_take]; rfl)) ?_; (with_reducible refine (impl_within.calls a0 0 a3 false _ A5.out).mono ?_); rintro e w' ⟨rfl, ⟨nd, rfl⟩⟩; refine ⟨_, rfl, ?_⟩))
    go_ret
    exact ⟨by first | rfl | (simp; done) | (simp [*]; done), by repeat (first | exact Drawn0.refl _ | apply Drawn0.step)⟩

/-! ### impl_below: function 30 (given) -/
section
open Go Go.RowKit Go.Lib Go.Proofs.YtpelhinjoambfaaW.PrintWords Go.Proofs.Ytpelhinjoambfaa.Ranks
theorem lines_table : ∀ a, a < 13 → ∀ b, b < 13 - a → ∀ c, c < 13 - a - b → (impl_lines.f 100 ((a : Nat) : Int) ((b : Nat) : Int) ((c : Nat) : Int) == some ((M a b c : Nat) : Int)) = true := by decide +kernel
theorem lines_eq (t g f : Nat) (h : t + g + f ≤ 12) : impl_lines.f 100 (t : Int) (g : Int) (f : Int) = some ((M t g f : Nat) : Int) :=
  eq_of_beq (lines_table t (by omega) g (by omega) f (by omega))
/-- how many lines have a sign less than s at first -/
def bel (t g f s : Nat) : Nat := (if 1 ≤ s then GG t g f else 0) + (if 2 ≤ s then FF t g f else 0)
def Bel (w0 w : World) (g f t s : Nat) (x i : Value) : Prop := ∃ k : Nat, k ≤ s ∧ i = .int .i64 (k : Int) ∧ x = .int .i64 ((bel t g f k : Nat) : Int) ∧ w.heap[w0.heap.size]? = some (.cells #[.int .i64 (g : Int), .int .i64 (f : Int), .int .i64 (t : Int)] 40 (0, 0)) ∧ Below w0.heap.size w0 w
set_option maxHeartbeats 4000000 in
set_option maxRecDepth 1000000 in
theorem impl_below.walk (t g f s : Nat) (hs : t + g + f ≤ 12) (h2 : s ≤ 2) (w : World) :
    Calls Try.prog 30 #[.agg #[.int .i64 (g : Int), .int .i64 (f : Int), .int .i64 (t : Int)], .int .i64 (s : Int)] w fun e w' => e = .returned (.int .i64 ((bel t g f s : Nat) : Int)) ∧ Below w.heap.size w w' := by
  go_enter Try.func30, Try.ntmps30
  go_wp2
  have hb0 : (w.alloc (.cells #[.int .i64 (g : Int), .int .i64 (f : Int), .int .i64 (t : Int)] 40 (0, 0))).heap[w.heap.size]? = some (.cells #[.int .i64 (g : Int), .int .i64 (f : Int), .int .i64 (t : Int)] 40 (0, 0)) := blk_new w _
  have hB0 : Below w.heap.size w (w.alloc (.cells #[.int .i64 (g : Int), .int .i64 (f : Int), .int .i64 (t : Int)] 40 (0, 0))) := below_alloc (Below.refl _ _) _
  go_loopw [5, 8] (fun x i wr => Bel w wr g f t s x i) (fun _ i _ => s - (RowKit.intOf i).toNat)
  case atStart => exact ⟨0, Nat.zero_le _, rfl, by simp [bel], hb0, hB0⟩
  case round =>
    obtain ⟨k, hk, rfl, rfl, hb, hB⟩ := hrel
    clear hb0 hB0
    have hgb := GG_le hs
    have hfb := FF_le hs
    have hc0 : wr.cell? ⟨w.heap.size, 0, none⟩ = some (.int .i64 (g : Int)) := (blk_cell hb 0).trans rfl
    have hc1 : wr.cell? ⟨w.heap.size, 1, none⟩ = some (.int .i64 (f : Int)) := (blk_cell hb 1).trans rfl
    have hc2 : wr.cell? ⟨w.heap.size, 2, none⟩ = some (.int .i64 (t : Int)) := (blk_cell hb 2).trans rfl
    have hf0 := blk_frozen hb 0
    have hf1 := blk_frozen hb 1
    by_cases hlt : k < s
    · have hk01 : k = 0 ∨ k = 1 := by omega
      rcases hk01 with rfl | rfl
      · have e0 : bel t g f 0 = 0 := by simp [bel]
        have HE : Hid (bel t g f (0 + 1) = GG t g f) := Lib.hid (by simp [bel])
        rw [e0]
        clear e0
        by_cases hg : g = 0
        · subst hg
          go_wp2
          go_roundw
          case rel => exact ⟨0 + 1, by omega, rfl, by rw [HE.out]; rfl, hb, hB⟩
          case measure => simp [RowKit.intOf]; omega
        · have hl := lines_eq t (g - 1) f (by omega)
          rw [show (((g - 1 : Nat)) : Int) = (g : Int) - 1 from by omega] at hl
          have HG : Hid (GG t g f = M t (g - 1) f) := Lib.hid (by unfold GG; rw [if_neg hg])
          have hm := M_small (t := t) (g := g - 1) (f := f) (by omega)
          generalize M t (g - 1) f = m at *
          go_wp2_with (go_at_call 29; refine (impl_lines.calls 100 (t : Int) ((g : Int) - 1) (f : Int) (m : Int) _ hl).mono ?_; rintro e w' ⟨rfl, ⟨nd, rfl⟩⟩)
          refine ⟨⟨0 + 1, by omega, rfl, by rw [HE.out, HG.out], blk_set (blk_drewN (blk_set hb 0 _) nd) 0 _, ?_⟩, ?_⟩
          · exact (pw_below_drewN (below_set hB (Nat.le_refl _)) nd).setCell (Nat.le_refl _) _
          · simp [RowKit.intOf]; omega
      · have HE : Hid (bel t g f (1 + 1) = GG t g f + FF t g f) := Lib.hid (by simp [bel])
        have e0 : bel t g f 1 = GG t g f := by simp [bel]
        rw [e0]
        clear e0
        generalize GG t g f = y at *
        by_cases hg : f = 0
        · subst hg
          go_wp2
          go_roundw
          case rel => exact ⟨1 + 1, by omega, rfl, by rw [HE.out]; rfl, hb, hB⟩
          case measure => simp [RowKit.intOf]; omega
        · have hl := lines_eq t g (f - 1) (by omega)
          rw [show (((f - 1 : Nat)) : Int) = (f : Int) - 1 from by omega] at hl
          have HG : Hid (FF t g f = M t g (f - 1)) := Lib.hid (by unfold FF; rw [if_neg hg])
          have hm := M_small (t := t) (g := g) (f := f - 1) (by omega)
          generalize M t g (f - 1) = m at *
          go_wp2_with (go_at_call 29; refine (impl_lines.calls 100 (t : Int) (g : Int) ((f : Int) - 1) (m : Int) _ hl).mono ?_; rintro e w' ⟨rfl, ⟨nd, rfl⟩⟩)
          refine ⟨⟨1 + 1, by omega, rfl, by rw [HE.out, HG.out]; rfl, blk_set (blk_drewN (blk_set hb 1 _) nd) 1 _, ?_⟩, ?_⟩
          · exact (pw_below_drewN (below_set hB (Nat.le_refl _)) nd).setCell (Nat.le_refl _) _
          · simp [RowKit.intOf]; omega
    · obtain rfl : k = s := by omega
      go_wp2
      go_ret
      exact ⟨rfl, hB⟩
end
/-- how many lines have a lesser sign at first: for counts up to 12 together and a sign's place -/
def impl_below.f (a0 a1 a2 : Int) (a3 : Int) : Option Int := if 0 ≤ a0 ∧ 0 ≤ a1 ∧ 0 ≤ a2 ∧ a0 + a1 + a2 ≤ 12 ∧ 0 ≤ a3 ∧ a3 ≤ 2 then some ((bel a2.toNat a0.toNat a1.toNat a3.toNat : Nat) : Int) else none
theorem impl_below.calls (a0 a1 a2 a3 : Int) (r : Int) (w : World) (h : impl_below.f a0 a1 a2 a3 = some r) :
    Calls Try.prog 30 #[.agg #[.int .i64 a0, .int .i64 a1, .int .i64 a2], .int .i64 a3] w fun e w' => e = .returned (.int .i64 r) ∧ Below w.heap.size w w' := by
  unfold impl_below.f at h
  split at h
  · rename_i hc
    obtain rfl := Option.some.inj h
    obtain ⟨h0, h1, h2, h3, h4, h5⟩ := hc
    have hw := impl_below.walk a2.toNat a0.toNat a1.toNat a3.toNat (by omega) (by omega) w
    rwa [Int.toNat_of_nonneg h0, Int.toNat_of_nonneg h1, Int.toNat_of_nonneg h2, Int.toNat_of_nonneg h4] at hw
  · cases h


/-! ### impl_LineOfRank: function 10 (given) -/
section
open Go Go.RowKit Go.Lib Go.Proofs.YtpelhinjoambfaaW.PrintWords Go.Proofs.YtpelhinjoambfaaW.PrintLast Go.Proofs.Ytpelhinjoambfaa.Ranks
theorem u8_info : (Try.prog.info? 5).map (fun i => (i.zero, i.size, i.bytes)) = some (some (.int .u8 0), 1, 1) := by kernel_rfl
/-- the place of the sign at which a line with a rank begins -/
def sgnAt (t g f r : Nat) : Nat := if r < GG t g f then 0 else if r < GG t g f + FF t g f then 1 else 2
def ints8 (l : List UInt8) : List Int := l.map fun b => (b.toNat : Int)
def Lor (w0 w : World) (t g f r : Nat) (x o i : Value) : Prop := ∃ (t' g' f' r' : Nat) (pre : List UInt8), pre.length + (t' + g' + f') = t + g + f ∧ i = .int .i64 (pre.length : Int) ∧ x = .int .i64 (r' : Int) ∧ r' < M t' g' f' ∧ pre ++ unrank (t' + g' + f') t' g' f' r' = unrank (t + g + f) t g f r ∧
  w.heap[w0.heap.size + 1]? = some (.cells #[.int .i64 (g' : Int), .int .i64 (f' : Int), .int .i64 (t' : Int)] 40 (0, 0)) ∧ Kd.R (Kd.int .u8) 5 w w0.heap.size (fun _ => True) o (ints8 pre) ∧ Below w0.heap.size w0 w
def Lin (w0 w : World) (t g f q : Nat) (pre : List UInt8) (o s : Value) : Prop := ∃ j : Nat, q ≤ j ∧ j ≤ 2 ∧ s = .int .i64 (j : Int) ∧
  w.heap[w0.heap.size + 1]? = some (.cells #[.int .i64 (g : Int), .int .i64 (f : Int), .int .i64 (t : Int)] 40 (0, 0)) ∧ Kd.R (Kd.int .u8) 5 w w0.heap.size (fun _ => True) o (ints8 pre) ∧ Below w0.heap.size w0 w
theorem below_f (t g f s : Nat) (h : t + g + f ≤ 12) (h2 : s ≤ 2) : impl_below.f (g : Int) (f : Int) (t : Int) (s : Int) = some ((bel t g f s : Nat) : Int) := by
  unfold impl_below.f
  rw [if_pos (by omega), Int.toNat_natCast, Int.toNat_natCast, Int.toNat_natCast, Int.toNat_natCast]
theorem un_step (t g f r : Nat) (h1 : 1 ≤ t + g + f) (h12 : t + g + f ≤ 12) (hr : r < M t g f) :
    (r < GG t g f → unrank (t + g + f) t g f r = 46 :: unrank (t + g + f - 1) t (g - 1) f r ∧ r < M t (g - 1) f) ∧
    (GG t g f ≤ r → r < GG t g f + FF t g f → unrank (t + g + f) t g f r = 70 :: unrank (t + g + f - 1) t g (f - 1) (r - GG t g f) ∧ r - GG t g f < M t g (f - 1)) ∧
    (GG t g f + FF t g f ≤ r → unrank (t + g + f) t g f r = 84 :: unrank (t + g + f - 1) (t - 1) g f (r - (GG t g f + FF t g f)) ∧ r - (GG t g f + FF t g f) < M (t - 1) g f) := by
  obtain ⟨n, hn⟩ : ∃ n, t + g + f = n + 1 := ⟨t + g + f - 1, by omega⟩
  have hrec := M_rec h1 h12
  rw [hn, Nat.add_sub_cancel]
  refine ⟨fun h => ?_, fun h h2 => ?_, fun h => ?_⟩
  · have hg : g ≠ 0 := by rintro rfl; simp [GG] at h
    have e : GG t g f = M t (g - 1) f := by unfold GG; rw [if_neg hg]
    exact ⟨by conv => lhs; unfold unrank
              rw [if_pos h], by omega⟩
  · have hf : f ≠ 0 := by rintro rfl; simp [FF] at h2; omega
    have e : FF t g f = M t g (f - 1) := by unfold FF; rw [if_neg hf]
    exact ⟨by conv => lhs; unfold unrank
              rw [if_neg (by omega), if_pos h2], by omega⟩
  · have ht : t ≠ 0 := by rintro rfl; simp [TT] at hrec; omega
    have e : TT t g f = M (t - 1) g f := by unfold TT; rw [if_neg ht]
    exact ⟨by conv => lhs; unfold unrank
              rw [if_neg (by omega), if_neg (by omega), Nat.sub_sub], by omega⟩
set_option maxHeartbeats 4000000 in
set_option maxRecDepth 1000000 in
theorem impl_LineOfRank.walk (t g f r : Nat) (hs : t + g + f ≤ 12) (hr : r < M t g f) (w : World) (hA : impl_areCounts.f (t : Int) (g : Int) (f : Int) 12 = some true) :
    Calls Try.prog 10 #[.int .i64 (t : Int), .int .i64 (g : Int), .int .i64 (f : Int), .int .i64 (r : Int)] w fun e w' => e = .returned (.tuple #[.string ⟨(unrank (t + g + f) t g f r).toArray⟩, .bool true]) ∧ Below w.heap.size w w' := by
  have hm := M_small hs
  have hl := lines_eq t g f hs
  have hw : impl_within.f (r : Int) 0 ((M t g f : Nat) - 1 : Int) = some true := by
    unfold impl_within.f
    rw [if_pos (by omega), decide_eq_true (by omega)]
  have HM : Hid (M t g f = M t g f) := Lib.hid rfl
  generalize hmm : M t g f = m at hl hm hw hr
  clear HM
  have HM := Lib.hid hmm
  clear hmm
  go_enter Try.func10, Try.ntmps10
  go_wp2_with (first
    | (go_at_call 27; refine (impl_areCounts.calls (t : Int) (g : Int) (f : Int) 12 true _ hA).mono ?_; rintro e w' ⟨rfl, ⟨nd, rfl⟩⟩)
    | (go_at_call 29; refine (impl_lines.calls 100 (t : Int) (g : Int) (f : Int) (m : Int) _ hl).mono ?_; rintro e w' ⟨rfl, ⟨nd2, rfl⟩⟩)
    | (go_at_call 28; refine (impl_within.calls (r : Int) 0 ((m : Int) - 1) true _ hw).mono ?_; rintro e w' ⟨rfl, ⟨nd3, rfl⟩⟩))
  have hO : Kd.R (Kd.int .u8) 5 (((w.drewN (nd + nd2 + nd3)).alloc (.cells #[] 5 (0, 0))).alloc (.cells #[.int .i64 (g : Int), .int .i64 (f : Int), .int .i64 (t : Int)] 40 (0, 0))) w.heap.size (fun _ => True) (.slice (some ⟨w.heap.size, 0, none⟩) 0 0) [] :=
    Kd.R_alloc ⟨fun _ _ => trivial, [], World.ownsRow_lit (w.drewN (nd + nd2 + nd3)) #[] 0 (Nat.le_refl _) (by decide) rfl, Reps.none _ _⟩ _
  have hB : Below w.heap.size w (((w.drewN (nd + nd2 + nd3)).alloc (.cells #[] 5 (0, 0))).alloc (.cells #[.int .i64 (g : Int), .int .i64 (f : Int), .int .i64 (t : Int)] 40 (0, 0))) := below_alloc (below_alloc (pw_below_drewN (Below.refl _ _) _) _) _
  have hb : (((w.drewN (nd + nd2 + nd3)).alloc (.cells #[] 5 (0, 0))).alloc (.cells #[.int .i64 (g : Int), .int .i64 (f : Int), .int .i64 (t : Int)] 40 (0, 0))).heap[w.heap.size + 1]? = some (.cells #[.int .i64 (g : Int), .int .i64 (f : Int), .int .i64 (t : Int)] 40 (0, 0)) := by
    have h := blk_new ((w.drewN (nd + nd2 + nd3)).alloc (.cells #[] 5 (0, 0))) (.cells #[.int .i64 (g : Int), .int .i64 (f : Int), .int .i64 (t : Int)] 40 (0, 0))
    have e : ((w.drewN (nd + nd2 + nd3)).alloc (.cells #[] 5 (0, 0))).heap.size = w.heap.size + 1 := by simp
    rwa [e] at h
  go_loopw [3, 11, 38] (fun x o i wr => Lor w wr t g f r x o i) (fun _ _ i _ => t + g + f - (RowKit.intOf i).toNat)
  case atStart => exact ⟨t, g, f, r, [], by simp, rfl, rfl, HM.out ▸ hr, rfl, hb, hO, hB⟩
  case round =>
    clear hO hB hb hl hw hA hr HM hm
    obtain ⟨t', g', f', r', pre, hn, rfl, rfl, hr, hu, hb, hO, hB⟩ := hrel
    by_cases hlt : pre.length < t + g + f
    · have hdec : decide ((pre.length : Int) < (t : Int) + (g : Int) + (f : Int)) = true := decide_eq_true (by omega)
      have hgb := GG_le (t := t') (g := g') (f := f') (by omega)
      have hfb := FF_le (t := t') (g := g') (f := f') (by omega)
      have htb := TT_le (t := t') (g := g') (f := f') (by omega)
      have hrec := M_rec (t := t') (g := g') (f := f') (by omega) (by omega)
      have hd0 := below_f t' g' f' 0 (by omega) (by omega)
      have hd1 := below_f t' g' f' 1 (by omega) (by omega)
      have hd2 := below_f t' g' f' 2 (by omega) (by omega)
      have e0 : bel t' g' f' 0 = 0 := by simp [bel]
      have e1 : bel t' g' f' 1 = GG t' g' f' := by simp [bel]
      have e2 : bel t' g' f' 2 = GG t' g' f' + FF t' g' f' := by simp [bel]
      rw [e0] at hd0
      rw [e1] at hd1
      rw [e2] at hd2
      clear e0 e1 e2
      have HUU := Lib.hid hu
      have HU := Lib.hid (un_step t' g' f' r' (by omega) (by omega) hr)
      have HUU := Lib.hid hu
      have HU := Lib.hid (un_step t' g' f' r' (by omega) (by omega) hr)
      have HPL : Hid ((ints8 pre).length ≤ 12) := Lib.hid (by unfold ints8; rw [List.length_map]; omega)
      have hrb : r' < 1000000 := Nat.lt_trans hr (M_small (by omega))
      have hbyte0 : ((((⟨#[46, 70, 84]⟩ : ByteArray)[0]'(by decide)).toNat : Nat) : Int) = 46 := rfl
      have hbyte1 : ((((⟨#[46, 70, 84]⟩ : ByteArray)[1]'(by decide)).toNat : Nat) : Int) = 70 := rfl
      have hbyte2 : ((((⟨#[46, 70, 84]⟩ : ByteArray)[2]'(by decide)).toNat : Nat) : Int) = 84 := rfl
      go_wp2
      obtain ⟨wo, rfl⟩ : ∃ wo : World, wo = wr := ⟨_, rfl⟩
      go_loopw [12] (fun s wr => Lin w wr t' g' f' (sgnAt t' g' f' r') pre u11 s) (fun s _ => (RowKit.intOf s).toNat)
      case atStart => exact ⟨2, by unfold sgnAt; split <;> (try split) <;> omega, by omega, rfl, hb, hO, hB⟩
      case round =>
        clear hO hB hb
        obtain ⟨j, hq, hj, rfl, hb2, hO2, hB2⟩ := hrel
        have hs3 : (sgnAt t' g' f' r' = 0 ∧ r' < GG t' g' f' ∧ g' ≠ 0) ∨ (sgnAt t' g' f' r' = 1 ∧ GG t' g' f' ≤ r' ∧ r' < GG t' g' f' + FF t' g' f' ∧ f' ≠ 0) ∨ (sgnAt t' g' f' r' = 2 ∧ GG t' g' f' + FF t' g' f' ≤ r' ∧ t' ≠ 0) := by
          unfold sgnAt
          split
          · exact .inl ⟨rfl, by assumption, by rintro rfl; simp [GG] at *⟩
          · split
            · exact .inr (.inl ⟨rfl, by omega, by assumption, by rintro rfl; simp [FF] at *; omega⟩)
            · exact .inr (.inr ⟨rfl, by omega, by rintro rfl; simp [TT] at *; omega⟩)
        have hc0 : wr.cell? ⟨w.heap.size + 1, 0, none⟩ = some (.int .i64 (g' : Int)) := (blk_cell hb2 0).trans rfl
        have hc1 : wr.cell? ⟨w.heap.size + 1, 1, none⟩ = some (.int .i64 (f' : Int)) := (blk_cell hb2 1).trans rfl
        have hc2 : wr.cell? ⟨w.heap.size + 1, 2, none⟩ = some (.int .i64 (t' : Int)) := (blk_cell hb2 2).trans rfl
        generalize sgnAt t' g' f' r' = q at *
        obtain ⟨y1, hy1⟩ : ∃ y1 : Nat, y1 = GG t' g' f' := ⟨_, rfl⟩
        obtain ⟨y2, hy2⟩ : ∃ y2 : Nat, y2 = GG t' g' f' + FF t' g' f' := ⟨_, rfl⟩
        rw [← hy2] at hd2 hs3
        rw [← hy1] at hd1 hs3
        have hyb : y1 < 1000000 ∧ y2 < 2000000 ∧ y1 ≤ y2 := by omega
        have HY1 := Lib.hid hy1
        have HY2 := Lib.hid hy2
        clear hy1 hy2 hrec hgb hfb htb
        have hj3 : j = 0 ∨ j = 1 ∨ j = 2 := by omega
        rcases hj3 with rfl | rfl | rfl
        · have hg0 : g' ≠ 0 := by omega
          have hz : ((g' : Int) == 0) = false := by simp [hg0]
          have hq2 : r' < y1 := by omega
          clear hs3 hd1 hd2 hq
          go_wp2_with (first | (go_at_call 30; refine (impl_below.calls (g' : Int) (f' : Int) (t' : Int) 0 (0 : Int) _ hd0).mono ?_; rintro e w1 ⟨rfl, hx⟩; have hb3 := blk_below hb2 hx; have hO3 := Kd.R_below hO2 hx; have hB3 := below_step hB2 hx; clear hx hb2 hO2 hB2 hc0 hc1 hc2; have hb2 := hb3; have hO2 := hO3; have hB2 := hB3; clear hb3 hO3 hB3; have hc0 := (blk_cell hb2 0).trans rfl; have hc1 := (blk_cell hb2 1).trans rfl; have hc2 := (blk_cell hb2 2).trans rfl; have hf0 := blk_frozen hb2 0) | (at_builtin; refine Kd.R_append (Kd.int .u8) (w0 := w) w.heap.size rfl (.tmp 63) (.tmp 66) 41 5 (.int .u8 0) 1 rfl Try.underlying41 u8_info rfl (by decide) (by omega) u11 (ints8 pre) 46 [.int .u8 46] (fun _ => True) (fun _ => False) rfl ?aX ?aP (fun _ hk => hk.elim) ?aF ?aO ?aB ?aS ?aL ?_; (case aX => (have e_ : ∀ (x_ : World) (p_ : Addr) (u_ : Value), (x_.setCell p_ u_).heap.size = x_.heap.size := fun _ _ _ => by simp); rw [e_]; rfl); (case aP => exact rfl); (case aB => exact below_set hB2 (Nat.le_succ _)); (case aF => exact fun _ _ => trivial); (case aO => exact Kd.R_set hO2 hb2 (by decide) _ _); (case aS => exact below_size (below_set hB2 (Nat.le_succ _))); (case aL => have hle : (ints8 pre).length ≤ 12 := HPL.out; omega); intro v3 w3 ho hbo hg _; have hb4 := blk_grown (blk_set hb2 0 (.int .i64 ((g' : Int) - 1))) hg (Kd.R_ne hO2 hb2 (by decide))))
          have ec : ((g' : Int) - 1) = ((g' - 1 : Nat) : Int) := by omega
          rw [ec] at hb4
          obtain ⟨u1, u2⟩ := HU.out.1 (by rw [← HY1.out]; exact hq2)
          skip
          refine ⟨⟨t', g' - 1, f', r', pre ++ [46], ?_, ?_, ?_, u2, ?_, hb4, ?_, hbo⟩, ?_⟩
          · rw [List.length_append, List.length_singleton]; omega
          · rw [List.length_append, List.length_singleton]; rfl
          · rfl
          · rw [List.append_assoc, List.singleton_append, show t' + (g' - 1) + f' = t' + g' + f' - 1 from by omega, ← u1]; exact HUU.out
          · rw [show ints8 (pre ++ [46]) = ints8 pre ++ [46] from by simp [ints8]]; exact ho
          · simp [RowKit.intOf]; omega
        · clear hd0 hd2
          by_cases ht : f' = 0
          · have hz : ((f' : Int) == 0) = true := by simp [ht]
            clear hd1
            have hq1 : q ≤ 0 := by omega
            clear ht hs3
            go_wp2
            exact ⟨⟨0, hq1, by omega, rfl, hb2, hO2, hB2⟩, by simp [RowKit.intOf]⟩
          · have hz : ((f' : Int) == 0) = false := by simp [ht]
            by_cases hq2 : r' < y1
            · have hq1 : q ≤ 0 := by omega
              clear hs3
              go_wp2_with (first | (go_at_call 30; refine (impl_below.calls (g' : Int) (f' : Int) (t' : Int) 1 (y1 : Int) _ hd1).mono ?_; rintro e w1 ⟨rfl, hx⟩; have hb3 := blk_below hb2 hx; have hO3 := Kd.R_below hO2 hx; have hB3 := below_step hB2 hx; clear hx hb2 hO2 hB2 hc0 hc1 hc2; have hb2 := hb3; have hO2 := hO3; have hB2 := hB3; clear hb3 hO3 hB3; have hc0 := (blk_cell hb2 0).trans rfl; have hc1 := (blk_cell hb2 1).trans rfl; have hc2 := (blk_cell hb2 2).trans rfl; have hf0 := blk_frozen hb2 1))
              exact ⟨⟨0, hq1, by omega, rfl, hb2, hO2, hB2⟩, by simp [RowKit.intOf]⟩
            · have hq1 : q = 1 := by omega
              have hq3 : r' < y2 := by omega
              have hq0 : y1 ≤ r' := by omega
              clear hs3 hq
              go_wp2_with (first | (go_at_call 30; refine (impl_below.calls (g' : Int) (f' : Int) (t' : Int) 1 (y1 : Int) _ hd1).mono ?_; rintro e w1 ⟨rfl, hx⟩; have hb3 := blk_below hb2 hx; have hO3 := Kd.R_below hO2 hx; have hB3 := below_step hB2 hx; clear hx hb2 hO2 hB2 hc0 hc1 hc2; have hb2 := hb3; have hO2 := hO3; have hB2 := hB3; clear hb3 hO3 hB3; have hc0 := (blk_cell hb2 0).trans rfl; have hc1 := (blk_cell hb2 1).trans rfl; have hc2 := (blk_cell hb2 2).trans rfl; have hf0 := blk_frozen hb2 1) | (at_builtin; refine Kd.R_append (Kd.int .u8) (w0 := w) w.heap.size rfl (.tmp 63) (.tmp 66) 41 5 (.int .u8 0) 1 rfl Try.underlying41 u8_info rfl (by decide) (by omega) u11 (ints8 pre) 70 [.int .u8 70] (fun _ => True) (fun _ => False) rfl ?aX ?aP (fun _ hk => hk.elim) ?aF ?aO ?aB ?aS ?aL ?_; (case aX => (have e_ : ∀ (x_ : World) (p_ : Addr) (u_ : Value), (x_.setCell p_ u_).heap.size = x_.heap.size := fun _ _ _ => by simp); rw [e_]; rfl); (case aP => exact rfl); (case aB => exact below_set hB2 (Nat.le_succ _)); (case aF => exact fun _ _ => trivial); (case aO => exact Kd.R_set hO2 hb2 (by decide) _ _); (case aS => exact below_size (below_set hB2 (Nat.le_succ _))); (case aL => have hle : (ints8 pre).length ≤ 12 := HPL.out; omega); intro v3 w3 ho hbo hg _; have hb4 := blk_grown (blk_set hb2 1 (.int .i64 ((f' : Int) - 1))) hg (Kd.R_ne hO2 hb2 (by decide))))
              have ec : ((f' : Int) - 1) = ((f' - 1 : Nat) : Int) := by omega
              rw [ec] at hb4
              obtain ⟨u1, u2⟩ := HU.out.2.1 (by rw [← HY1.out]; omega) (by rw [← HY2.out]; omega)
              rw [← HY1.out] at u1 u2
              refine ⟨⟨t', g', f' - 1, r' - y1, pre ++ [70], ?_, ?_, ?_, u2, ?_, hb4, ?_, hbo⟩, ?_⟩
              · rw [List.length_append, List.length_singleton]; omega
              · rw [List.length_append, List.length_singleton]; rfl
              · congr 1; omega
              · rw [List.append_assoc, List.singleton_append, show t' + g' + (f' - 1) = t' + g' + f' - 1 from by omega, ← u1]; exact HUU.out
              · rw [show ints8 (pre ++ [70]) = ints8 pre ++ [70] from by simp [ints8]]; exact ho
              · simp [RowKit.intOf]; omega
        · clear hd0 hd1
          by_cases ht : t' = 0
          · have hz : ((t' : Int) == 0) = true := by simp [ht]
            clear hd2
            have hq1 : q ≤ 1 := by omega
            clear ht hs3
            go_wp2
            exact ⟨⟨1, hq1, by omega, rfl, hb2, hO2, hB2⟩, by simp [RowKit.intOf]⟩
          · have hz : ((t' : Int) == 0) = false := by simp [ht]
            by_cases hq2 : r' < y2
            · have hq1 : q ≤ 1 := by omega
              clear hs3
              go_wp2_with (first | (go_at_call 30; refine (impl_below.calls (g' : Int) (f' : Int) (t' : Int) 2 (y2 : Int) _ hd2).mono ?_; rintro e w1 ⟨rfl, hx⟩; have hb3 := blk_below hb2 hx; have hO3 := Kd.R_below hO2 hx; have hB3 := below_step hB2 hx; clear hx hb2 hO2 hB2 hc0 hc1 hc2; have hb2 := hb3; have hO2 := hO3; have hB2 := hB3; clear hb3 hO3 hB3; have hc0 := (blk_cell hb2 0).trans rfl; have hc1 := (blk_cell hb2 1).trans rfl; have hc2 := (blk_cell hb2 2).trans rfl; have hf0 := blk_frozen hb2 2))
              exact ⟨⟨1, hq1, by omega, rfl, hb2, hO2, hB2⟩, by simp [RowKit.intOf]⟩
            · have hq1 : q = 2 := by omega
              have hq0 : y2 ≤ r' := by omega
              clear hs3 hq
              go_wp2_with (first | (go_at_call 30; refine (impl_below.calls (g' : Int) (f' : Int) (t' : Int) 2 (y2 : Int) _ hd2).mono ?_; rintro e w1 ⟨rfl, hx⟩; have hb3 := blk_below hb2 hx; have hO3 := Kd.R_below hO2 hx; have hB3 := below_step hB2 hx; clear hx hb2 hO2 hB2 hc0 hc1 hc2; have hb2 := hb3; have hO2 := hO3; have hB2 := hB3; clear hb3 hO3 hB3; have hc0 := (blk_cell hb2 0).trans rfl; have hc1 := (blk_cell hb2 1).trans rfl; have hc2 := (blk_cell hb2 2).trans rfl; have hf0 := blk_frozen hb2 2) | (at_builtin; refine Kd.R_append (Kd.int .u8) (w0 := w) w.heap.size rfl (.tmp 63) (.tmp 66) 41 5 (.int .u8 0) 1 rfl Try.underlying41 u8_info rfl (by decide) (by omega) u11 (ints8 pre) 84 [.int .u8 84] (fun _ => True) (fun _ => False) rfl ?aX ?aP (fun _ hk => hk.elim) ?aF ?aO ?aB ?aS ?aL ?_; (case aX => (have e_ : ∀ (x_ : World) (p_ : Addr) (u_ : Value), (x_.setCell p_ u_).heap.size = x_.heap.size := fun _ _ _ => by simp); rw [e_]; rfl); (case aP => exact rfl); (case aB => exact below_set hB2 (Nat.le_succ _)); (case aF => exact fun _ _ => trivial); (case aO => exact Kd.R_set hO2 hb2 (by decide) _ _); (case aS => exact below_size (below_set hB2 (Nat.le_succ _))); (case aL => have hle : (ints8 pre).length ≤ 12 := HPL.out; omega); intro v3 w3 ho hbo hg _; have hb4 := blk_grown (blk_set hb2 2 (.int .i64 ((t' : Int) - 1))) hg (Kd.R_ne hO2 hb2 (by decide))))
              have ec : ((t' : Int) - 1) = ((t' - 1 : Nat) : Int) := by omega
              rw [ec] at hb4
              obtain ⟨u1, u2⟩ := HU.out.2.2 (by rw [← HY2.out]; omega)
              rw [← HY2.out] at u1 u2
              refine ⟨⟨t' - 1, g', f', r' - y2, pre ++ [84], ?_, ?_, ?_, u2, ?_, hb4, ?_, hbo⟩, ?_⟩
              · rw [List.length_append, List.length_singleton]; omega
              · rw [List.length_append, List.length_singleton]; rfl
              · congr 1; omega
              · rw [List.append_assoc, List.singleton_append, show (t' - 1) + g' + f' = t' + g' + f' - 1 from by omega, ← u1]; exact HUU.out
              · rw [show ints8 (pre ++ [84]) = ints8 pre ++ [84] from by simp [ints8]]; exact ho
              · simp [RowKit.intOf]; omega
    · have hdec : decide ((pre.length : Int) < (t : Int) + (g : Int) + (f : Int)) = false := decide_eq_false (by omega)
      obtain rfl : t' = 0 := by omega
      obtain rfl : g' = 0 := by omega
      obtain rfl : f' = 0 := by omega
      have hcv := own_string (P := Try.prog) Try.underlying41 Try.underlying5 Try.underlying9 (Kd.own_of_R hO)
      have hp : Hid (pre = unrank (t + g + f) t g f r) := Lib.hid (by rw [← hu]; exact (List.append_nil _).symm)
      clear hu hn hr hb hO
      go_wp2
      go_ret2
      rw [← hp.out]
      exact ⟨by rw [show strOfNums (ints8 pre) = ⟨pre.toArray⟩ from Go.Proofs.YtpelhinjoambfaaXW.nums_str pre]; rfl, hB⟩
theorem within_b (a b c : Int) : impl_within.f a b c = some (decide (b ≤ a ∧ a ≤ c)) := by
  unfold impl_within.f
  by_cases h : b ≤ a <;> simp [h]
theorem areCounts_true {a b c : Int} (h : impl_areCounts.f a b c 12 = some true) : (0 ≤ a ∧ a ≤ 12) ∧ (0 ≤ b ∧ b ≤ 12) ∧ (0 ≤ c ∧ c ≤ 12) ∧ 1 ≤ a + b + c ∧ a + b + c ≤ 12 := by
  unfold impl_areCounts.f at h
  rw [within_b, within_b, within_b, within_b] at h
  simp only [Option.bind_some] at h
  by_cases h1 : 0 ≤ a ∧ a ≤ 12
  case neg => rw [decide_eq_false h1, if_neg (by decide)] at h; cases h
  by_cases h2 : 0 ≤ b ∧ b ≤ 12
  case neg => rw [decide_eq_true h1, decide_eq_false h2, if_pos rfl, if_neg (by decide)] at h; cases h
  by_cases h3 : 0 ≤ c ∧ c ≤ 12
  case neg => rw [decide_eq_true h1, decide_eq_true h2, decide_eq_false h3, if_pos rfl, if_pos rfl, if_neg (by decide)] at h; cases h
  rw [decide_eq_true h1, decide_eq_true h2, decide_eq_true h3, if_pos rfl, if_pos rfl, if_pos rfl, Option.some.injEq, decide_eq_true_eq] at h
  have hw : wrap64 (wrap64 (a + b) + c) = a + b + c := by unfold wrap64; omega
  rw [hw] at h
  exact ⟨h1, h2, h3, h⟩
set_option maxHeartbeats 4000000 in
set_option maxRecDepth 1000000 in
theorem impl_LineOfRank.none_ (a0 a1 a2 a3 : Int) (w : World) (hA : impl_areCounts.f a0 a1 a2 12 = some false) :
    Calls Try.prog 10 #[.int .i64 a0, .int .i64 a1, .int .i64 a2, .int .i64 a3] w fun e w' => e = .returned (.tuple #[.string ⟨#[]⟩, .bool false]) ∧ Below w.heap.size w w' := by
  go_enter Try.func10, Try.ntmps10
  go_wp2_with (first
    | (go_at_call 27; refine (impl_areCounts.calls a0 a1 a2 12 false _ hA).mono ?_; rintro e w' ⟨rfl, ⟨nd, rfl⟩⟩))
  go_ret2
  exact ⟨rfl, pw_below_drewN (Below.refl _ _) _⟩
set_option maxHeartbeats 4000000 in
set_option maxRecDepth 1000000 in
theorem impl_LineOfRank.out_ (a0 a1 a2 a3 m : Int) (w : World) (hA : impl_areCounts.f a0 a1 a2 12 = some true) (hl : impl_lines.f 100 a0 a1 a2 = some m) (m0 : 0 ≤ m) (m1 : m < 1000000) (hw : impl_within.f a3 0 (m - 1) = some false) :
    Calls Try.prog 10 #[.int .i64 a0, .int .i64 a1, .int .i64 a2, .int .i64 a3] w fun e w' => e = .returned (.tuple #[.string ⟨#[]⟩, .bool false]) ∧ Below w.heap.size w w' := by
  go_enter Try.func10, Try.ntmps10
  go_wp2_with (first
    | (go_at_call 27; refine (impl_areCounts.calls a0 a1 a2 12 true _ hA).mono ?_; rintro e w' ⟨rfl, ⟨nd, rfl⟩⟩)
    | (go_at_call 29; refine (impl_lines.calls 100 a0 a1 a2 m _ hl).mono ?_; rintro e w' ⟨rfl, ⟨nd2, rfl⟩⟩)
    | (go_at_call 28; refine (impl_within.calls a3 0 (m - 1) false _ hw).mono ?_; rintro e w' ⟨rfl, ⟨nd3, rfl⟩⟩))
  go_ret2
  exact ⟨rfl, pw_below_drewN (Below.refl _ _) _⟩
end
/-- the line with a rank, if there is one -/
def impl_LineOfRank.f (a0 a1 a2 : Int) (a3 : Int) : Option (ByteArray × Bool) := (impl_areCounts.f a0 a1 a2 12).bind fun b => if b = true then ((impl_lines.f 100 a0 a1 a2).bind fun m => ((impl_within.f a3 0 (m - 1)).bind fun c => if c = true then (some ((⟨(Go.Proofs.Ytpelhinjoambfaa.Ranks.unrank (a0.toNat + a1.toNat + a2.toNat) a0.toNat a1.toNat a2.toNat a3.toNat).toArray⟩ : ByteArray), true)) else (some ((⟨#[]⟩ : ByteArray), false)))) else (some ((⟨#[]⟩ : ByteArray), false))
theorem impl_LineOfRank.calls (a0 a1 a2 a3 : Int) (r1 : ByteArray) (r2 : Bool) (w : World) (h : impl_LineOfRank.f a0 a1 a2 a3 = some (r1, r2)) :
    Calls Try.prog 10 #[.int .i64 a0, .int .i64 a1, .int .i64 a2, .int .i64 a3] w fun e w' => e = .returned (.tuple #[.string r1, .bool r2]) ∧ Below w.heap.size w w' := by
  unfold impl_LineOfRank.f at h
  obtain ⟨b, hb, h⟩ := Option.bind_eq_some_iff.mp h
  cases b with
  | false =>
    rw [if_neg (by decide)] at h
    cases h
    exact impl_LineOfRank.none_ a0 a1 a2 a3 w hb
  | true =>
    rw [if_pos rfl] at h
    obtain ⟨⟨h0, _⟩, ⟨h1, _⟩, ⟨h2, _⟩, _, h3⟩ := areCounts_true hb
    obtain ⟨t, rfl⟩ := Int.eq_ofNat_of_zero_le h0
    obtain ⟨g, rfl⟩ := Int.eq_ofNat_of_zero_le h1
    obtain ⟨f, rfl⟩ := Int.eq_ofNat_of_zero_le h2
    have hl := lines_eq t g f (by omega)
    have hm := Go.Proofs.Ytpelhinjoambfaa.Ranks.M_small (t := t) (g := g) (f := f) (by omega)
    rw [hl] at h
    simp only [Option.bind_some] at h
    obtain ⟨c, hc, h⟩ := Option.bind_eq_some_iff.mp h
    cases c with
    | false =>
      rw [if_neg (by decide)] at h
      cases h
      exact impl_LineOfRank.out_ _ _ _ a3 _ w hb hl (by omega) (by omega) hc
    | true =>
      rw [if_pos rfl] at h
      cases h
      rw [within_b, Option.some.injEq, decide_eq_true_eq] at hc
      obtain ⟨r, rfl⟩ := Int.eq_ofNat_of_zero_le hc.1
      simp only [Int.toNat_natCast]
      exact impl_LineOfRank.walk t g f r (by omega) (by omega) w hb


end Go.Proofs.Ytpelhinjoambfaa.XR
