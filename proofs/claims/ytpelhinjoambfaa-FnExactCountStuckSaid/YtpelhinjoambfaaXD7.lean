/- The Lean functions that the Go functions of this seat compute, each with the proof that the Go function computes it, for every input (laws: FnExactCountStuck). Conditions: none beyond those that each theorem names. Written by a program of this session over the kit's printer. -/
import Derived.Test.YtpelhinjoambfaaXD0
import Derived.Test.YtpelhinjoambfaaXD1
import Derived.Test.YtpelhinjoambfaaXD4
import Derived.Test.YtpelhinjoambfaaXD5
import Derived.Test.YtpelhinjoambfaaXD6
namespace Go.Proofs.Ytpelhinjoambfaa.XD
open Go.RowKit Go.Proofs.YtpelhinjoambfaaW.PrintWords Go.Proofs.YtpelhinjoambfaaW.PrintLast Go.Proofs.YtpelhinjoambfaaW.PrintMore
attribute [local go_sem] max2_int min2_int max_two min_two max_three min_three max_four min_four   -- for this text's walks alone
attribute [local go_sem] Lib.run_min_strs Go.Proofs.YtpelhinjoambfaaXW.run_min2_strs Go.Proofs.YtpelhinjoambfaaXW.run_int_string
set_option linter.unusedVariables false
set_option linter.unusedSimpArgs false

/-! ### impl_movesBy: function 42 -/
mutual
def impl_movesBy.l0 : Nat → ByteArray → List (S58) → Int → Int → Bool → Bool → Bool → Option ((List (S58)))
  | 0, _, _, _, _, _, _, _ => none
  | k + 1, x0, x5, x14, x15, x153000, x153001, x153002 => if x15 < x14 then ((some (([(-1), 1] : List Int) : List Int)).bind fun y156 => (impl_movesBy.l1 k x0 x5 x15 x14 x15 y156 (y156.length : Int) 0 x153000 x153001 x153002)) else (some x5)
def impl_movesBy.l1 : Nat → ByteArray → List (S58) → Int → Int → Int → List Int → Int → Int → Bool → Bool → Bool → Option ((List (S58)))
  | 0, _, _, _, _, _, _, _, _, _, _, _ => none
  | k + 1, x0, x5, x6, x14, x15, x18, x19, x20, x153000, x153001, x153002 => if x20 < x19 then (if 0 ≤ x20 then (if x20 < (x18.length : Int) then (if 0 ≤ x6 then (if x6 < (x0.size : Int) then ((impl_stepOf.f (bt x0 x6)).bind fun t160 => (if t160 = 0 then (impl_movesBy.j2 k x0 x5 x6 (rd x18 x20) x14 x15 x18 x19 x20 true x153000 x153001 x153002) else (if t160 = (rd x18 x20) then (impl_movesBy.j2 k x0 x5 x6 (rd x18 x20) x14 x15 x18 x19 x20 false x153000 x153001 x153002) else (impl_movesBy.j2 k x0 x5 x6 (rd x18 x20) x14 x15 x18 x19 x20 (!x153001) x153000 x153001 x153002)))) else (none)) else (none)) else (none)) else (none)) else (impl_movesBy.l0 k x0 x5 x14 (wrap64 (x15 + 1)) x153000 x153001 x153002)
def impl_movesBy.j2 : Nat → ByteArray → List (S58) → Int → Int → Int → Int → List Int → Int → Int → Bool → Bool → Bool → Bool → Option ((List (S58)))
  | 0, _, _, _, _, _, _, _, _, _, _, _, _, _ => none
  | k + 1, x0, x5, x6, x8, x14, x15, x18, x19, x20, x39, x153000, x153001, x153002 => if x39 = true then (impl_movesBy.l1 k x0 x5 x6 x14 x15 x18 x19 (wrap64 (x20 + 1)) x153000 x153001 x153002) else ((impl_goalBy.f k x0 x6 x8 x153000 x153001 x153002).bind fun bt161 => (if bt161.2 = true then (if x5.length < 8796093022208 then (impl_movesBy.l1 k x0 (x5 ++ [(⟨x6, bt161.1⟩ : S58)]) x6 x14 x15 x18 x19 (wrap64 (x20 + 1)) x153000 x153001 x153002) else (none)) else (impl_movesBy.l1 k x0 x5 x6 x14 x15 x18 x19 (wrap64 (x20 + 1)) x153000 x153001 x153002)))
end
def impl_movesBy.f (k : Nat) (a0 : ByteArray) (a1_0 : Bool) (a1_1 : Bool) (a1_2 : Bool) : Option ((List (S58))) := impl_movesBy.l0 k a0 (([] : List (S58))) (a0.size : Int) 0 a1_0 a1_1 a1_2
theorem impl_movesBy.mono_l : ∀ k, (∀ y0 y1 y2 y3 y4 y5 y6, LeO (impl_movesBy.l0 k y0 y1 y2 y3 y4 y5 y6) (impl_movesBy.l0 (k + 1) y0 y1 y2 y3 y4 y5 y6)) ∧ (∀ y0 y1 y2 y3 y4 y5 y6 y7 y8 y9 y10, LeO (impl_movesBy.l1 k y0 y1 y2 y3 y4 y5 y6 y7 y8 y9 y10) (impl_movesBy.l1 (k + 1) y0 y1 y2 y3 y4 y5 y6 y7 y8 y9 y10)) ∧ (∀ y0 y1 y2 y3 y4 y5 y6 y7 y8 y9 y10 y11 y12, LeO (impl_movesBy.j2 k y0 y1 y2 y3 y4 y5 y6 y7 y8 y9 y10 y11 y12) (impl_movesBy.j2 (k + 1) y0 y1 y2 y3 y4 y5 y6 y7 y8 y9 y10 y11 y12))
  | 0 => ⟨fun _ _ _ _ _ _ _ r h => by simp [impl_movesBy.l0] at h, fun _ _ _ _ _ _ _ _ _ _ _ r h => by simp [impl_movesBy.l1] at h, fun _ _ _ _ _ _ _ _ _ _ _ _ _ r h => by simp [impl_movesBy.j2] at h⟩
  | k + 1 => by
    obtain ⟨ih0, ih1, ih2⟩ := impl_movesBy.mono_l k
    refine ⟨?_, ?_, ?_⟩
    · intro y0 y1 y2 y3 y4 y5 y6
      unfold impl_movesBy.l0
      repeat' first
      | (with_reducible exact ih0 _ _ _ _ _ _ _)
      | (with_reducible exact ih1 _ _ _ _ _ _ _ _ _ _ _)
      | (with_reducible exact ih2 _ _ _ _ _ _ _ _ _ _ _ _ _)
      | (with_reducible exact impl_goalBy.mono _ _ _ _ _ _ _)
      | (with_reducible exact LeO.refl _)
      | (with_reducible exact LeO.none _)
      | (with_reducible refine LeO.ite ?_ ?_)
      | (with_reducible refine LeO.bind ?_ (fun _ => ?_))
      | exact ih0 _ _ _ _ _ _ _
      | exact ih1 _ _ _ _ _ _ _ _ _ _ _
      | exact ih2 _ _ _ _ _ _ _ _ _ _ _ _ _
      | exact impl_goalBy.mono _ _ _ _ _ _ _
      | exact LeO.none _
      | refine LeO.ite ?_ ?_
      | refine LeO.bind ?_ (fun _ => ?_)
    · intro y0 y1 y2 y3 y4 y5 y6 y7 y8 y9 y10
      unfold impl_movesBy.l1
      repeat' first
      | (with_reducible exact ih0 _ _ _ _ _ _ _)
      | (with_reducible exact ih1 _ _ _ _ _ _ _ _ _ _ _)
      | (with_reducible exact ih2 _ _ _ _ _ _ _ _ _ _ _ _ _)
      | (with_reducible exact impl_goalBy.mono _ _ _ _ _ _ _)
      | (with_reducible exact LeO.refl _)
      | (with_reducible exact LeO.none _)
      | (with_reducible refine LeO.ite ?_ ?_)
      | (with_reducible refine LeO.bind ?_ (fun _ => ?_))
      | exact ih0 _ _ _ _ _ _ _
      | exact ih1 _ _ _ _ _ _ _ _ _ _ _
      | exact ih2 _ _ _ _ _ _ _ _ _ _ _ _ _
      | exact impl_goalBy.mono _ _ _ _ _ _ _
      | exact LeO.none _
      | refine LeO.ite ?_ ?_
      | refine LeO.bind ?_ (fun _ => ?_)
    · intro y0 y1 y2 y3 y4 y5 y6 y7 y8 y9 y10 y11 y12
      unfold impl_movesBy.j2
      repeat' first
      | (with_reducible exact ih0 _ _ _ _ _ _ _)
      | (with_reducible exact ih1 _ _ _ _ _ _ _ _ _ _ _)
      | (with_reducible exact ih2 _ _ _ _ _ _ _ _ _ _ _ _ _)
      | (with_reducible exact impl_goalBy.mono _ _ _ _ _ _ _)
      | (with_reducible exact LeO.refl _)
      | (with_reducible exact LeO.none _)
      | (with_reducible refine LeO.ite ?_ ?_)
      | (with_reducible refine LeO.bind ?_ (fun _ => ?_))
      | exact ih0 _ _ _ _ _ _ _
      | exact ih1 _ _ _ _ _ _ _ _ _ _ _
      | exact ih2 _ _ _ _ _ _ _ _ _ _ _ _ _
      | exact impl_goalBy.mono _ _ _ _ _ _ _
      | exact LeO.none _
      | refine LeO.ite ?_ ?_
      | refine LeO.bind ?_ (fun _ => ?_)
theorem impl_movesBy.mono : ∀ a0 a1 a2 a3 k, LeO (impl_movesBy.f k a0 a1 a2 a3) (impl_movesBy.f (k + 1) a0 a1 a2 a3) := by
  intro a0 a1 a2 a3 k
  obtain ⟨ih0, ih1, ih2⟩ := impl_movesBy.mono_l k
  unfold impl_movesBy.f
  repeat' first
      | (with_reducible exact ih0 _ _ _ _ _ _ _)
      | (with_reducible exact ih1 _ _ _ _ _ _ _ _ _ _ _)
      | (with_reducible exact ih2 _ _ _ _ _ _ _ _ _ _ _ _ _)
      | (with_reducible exact impl_goalBy.mono _ _ _ _ _ _ _)
      | (with_reducible exact LeO.refl _)
      | (with_reducible exact LeO.none _)
      | (with_reducible refine LeO.ite ?_ ?_)
      | (with_reducible refine LeO.bind ?_ (fun _ => ?_))
      | exact ih0 _ _ _ _ _ _ _
      | exact ih1 _ _ _ _ _ _ _ _ _ _ _
      | exact ih2 _ _ _ _ _ _ _ _ _ _ _ _ _
      | exact impl_goalBy.mono _ _ _ _ _ _ _
      | exact LeO.none _
      | refine LeO.ite ?_ ?_
      | refine LeO.bind ?_ (fun _ => ?_)
set_option maxHeartbeats 8000000 in
set_option maxRecDepth 100000 in
theorem impl_movesBy.calls (k : Nat) (a0 : ByteArray) (a1_0 : Bool) (a1_1 : Bool) (a1_2 : Bool) (r : List (S58)) (w : World) (h : impl_movesBy.f k a0 a1_0 a1_1 a1_2 = some r) :
    Calls Try.prog 42 #[.string a0, .agg #[.bool a1_0, .bool a1_1, .bool a1_2]] w fun e w' => ∃ v0_ : Value, e = .returned (v0_) ∧ Kd.R k58 58 w' w.heap.size (fun _ => True) v0_ r ∧ Below w.heap.size w w' := by
  have hu31 := Try.underlying31
  have hu58 := Try.underlying58
  have HB := Aside0.mk (Below.refl w.heap.size w)
  have H : (impl_movesBy.l0 k a0 (([] : List (S58))) (a0.size : Int) 0 a1_0 a1_1 a1_2) = some r := h
  clear h
  obtain ⟨y153, hy153⟩ : ∃ y_ : List (S58), y_ = (([] : List (S58))) := ⟨_, rfl⟩
  replace H : (impl_movesBy.l0 k a0 y153 (a0.size : Int) 0 a1_0 a1_1 a1_2) = some r := by first | (rw [hy153]; with_reducible exact H) | (have H2_ := (Option.bind_some _ _).symm.trans H; rw [hy153]; with_reducible exact H2_) | (have H2_ := (Option.bind_some _ _).symm.trans H; with_reducible exact H2_) | with_reducible exact H | (rw [hy153]; exact H) | exact H
  have Ny153 := Aside0.mk hy153
  clear hy153
  have H' := Aside0.mk H
  clear H
  go_enter Try.func42, Try.ntmps42
  go_wp2_with (first | ((with_reducible refine gate_dst (N := 3) rfl ?_); refine box_event ?hg (N := 3) ?hd (cs := #[.bool a1_0, .bool a1_1, .bool a1_2]) (t := 31) ?hr ?_; (case hd => rfl); (case hg => rfl); (case hr => first | (go_simp; done) | (go_simp; rfl)); intro gb152 hg w3 hbox hb; have n0_ := Aside0.mk (below_step (by repeat (first | (with_reducible first | exact HB.out | apply below_alloc | apply pw_below_drewN | apply below_drew1) | exact HB.out)) hb); have n1_ := Aside0.mk (hbox); have n2_ := Aside0.mk ((by rw [hg]; exact (below_size (by repeat (first | (with_reducible first | exact HB.out | apply below_alloc | apply pw_below_drewN | apply below_drew1) | exact HB.out))) : w.heap.size ≤ gb152)); have n3_ := Aside0.mk ((by rw [hg]; exact (below_size (by repeat (first | (with_reducible first | exact HB.out | apply below_alloc | apply pw_below_drewN | apply below_drew1) | exact HB.out))) : w.heap.size ≤ gb152)); clear HB; have HB := n0_; have BK152 := n1_; have GW152 := n2_; have GE152 := n3_; clear n0_ n1_ n2_ n3_; clear hb hbox hg) | ((with_reducible refine gate_dst (N := 12) rfl ?_); refine Kd.R_lit k58 _ 58 ?hg (N := 12) ?hd (xs := ([] : List (S58))) (inner := []) (ok := fun _ => True) (okp := fun _ => True) ?hr ?hp (fun _ hk => hk) trivial (Below.refl _ _) (Nat.le_refl _) (by simp) ?_; (case hd => rfl); (case hg => rfl); (case hr => first | (go_simp; done) | (go_simp; rfl)); (case hp => exact (Reps.none _ _)); intro v154 w4 ho5 hb hg_ hnew_; clear hg_ hnew_; (first | rw [← Ny153.out] at ho5 | (simp only [Int.reduceToNat] at ho5; rw [← Ny153.out] at ho5)); have n0_ := Aside0.mk (Kd.R_lower ho5 (below_size (by repeat (first | (with_reducible first | exact HB.out | apply below_alloc | apply pw_below_drewN | apply below_drew1 | refine below_set ?_ GE152.out) | exact HB.out)))); have n1_ := Aside0.mk (blk_below (g := gb152) (o := .cells #[.bool a1_0, .bool a1_1, .bool a1_2] 31 (0, 0)) (by (with_reducible repeat (first | refine blk_drewN ?_ _ | refine blk_drew ?_ | refine blk_alloc ?_ _)); exact BK152.out) hb); have n2_ := Aside0.mk (below_step (by repeat (first | (with_reducible first | exact HB.out | apply below_alloc | apply pw_below_drewN | apply below_drew1 | refine below_set ?_ GE152.out) | exact HB.out)) hb); clear BK152; clear HB; have HO155 := n0_; have BK152 := n1_; have HB := n2_; clear n0_ n1_ n2_; clear hb ho5))
  go_loopg [5, 15] k (fun kq v5 v15 w' => ∃ (x5_1 : List (S58)) (x15_1 : Int), v15 = .int .i64 x15_1 ∧ Aside0 (impl_movesBy.l0 kq a0 x5_1 (a0.size : Int) x15_1 a1_0 a1_1 a1_2 = some r) ∧ Aside0 (kq ≤ k) ∧ Aside0 (Kd.R k58 58 w' w.heap.size (fun _ => True) v5 x5_1) ∧ Aside0 (w'.heap[gb152]? = some (.cells #[.bool a1_0, .bool a1_1, .bool a1_2] 31 (0, 0))) ∧ Aside0 (Below w.heap.size w w'))
  case atStart => exact ⟨(y153), (0), (by first | rfl | (simp; done) | (simp [*]; done)), H', ⟨Nat.le_refl _⟩, ⟨by (with_reducible repeat (first | apply Kd.R_alloc | apply Kd.R_drewN | apply Kd.R_drew)); exact HO155.out⟩, ⟨by (with_reducible repeat (first | refine blk_drewN ?_ _ | refine blk_drew ?_ | refine blk_alloc ?_ _)); exact BK152.out⟩, ⟨by repeat (first | (with_reducible first | exact HB.out | apply below_alloc | apply pw_below_drewN | apply below_drew1 | refine below_set ?_ GE152.out) | exact HB.out)⟩⟩
  case round =>
    clear H'
    try clear p2
    try clear c4
    obtain ⟨x5_1, x15_1, rfl, HA, HK1, HO_5, BK152, HB⟩ := hrel
    cases gk with
    | zero => exact absurd HA.out (by simp [impl_movesBy.l0])
    | succ k1 =>
      have H := HA.out
      clear HA
      simp only [impl_movesBy.l0] at H
      by_cases c6 : x15_1 < (a0.size : Int)
      · rw [if_pos c6] at H
        have c6b0 : decide (x15_1 < (a0.size : Int)) = true := decide_eq_true c6
        clear c6
        obtain ⟨y156, hy156⟩ : ∃ y_ : List Int, y_ = (([(-1), 1] : List Int)) := ⟨_, rfl⟩
        replace H : (impl_movesBy.l1 k1 a0 x5_1 x15_1 (a0.size : Int) x15_1 y156 (y156.length : Int) 0 a1_0 a1_1 a1_2) = some r := by first | (rw [hy156]; with_reducible exact H) | (have H2_ := (Option.bind_some _ _).symm.trans H; rw [hy156]; with_reducible exact H2_) | (have H2_ := (Option.bind_some _ _).symm.trans H; with_reducible exact H2_) | with_reducible exact H | (rw [hy156]; exact H) | exact H
        have Ny156 := Aside0.mk hy156
        clear hy156
        have H' := Aside0.mk H
        clear H
        go_wp2_with (first | ((with_reducible refine gate_dst (N := 18) rfl ?_); refine Kd.R_lit (Kd.int .i64) _ 3 ?hg (N := 18) ?hd (xs := ([(-1), 1] : List Int)) (inner := [.int .i64 (-1), .int .i64 1]) (ok := fun _ => True) (okp := fun _ => True) ?hr ?hp (fun _ hk => hk) trivial (Below.refl _ _) (Nat.le_refl _) (by simp) ?_; (case hd => rfl); (case hg => rfl); (case hr => first | (go_simp; done) | (go_simp; rfl)); (case hp => exact (Reps.one (show Kd.M (Kd.int .i64) _ _ _ (-1) [.int .i64 (-1)] from rfl) (Reps.one (show Kd.M (Kd.int .i64) _ _ _ 1 [.int .i64 1] from rfl) (Reps.none _ _)))); intro v157 w7 ho8 hb hg_ hnew_; clear hg_ hnew_; (first | rw [← Ny156.out] at ho8 | (simp only [Int.reduceToNat] at ho8; rw [← Ny156.out] at ho8)); have n0_ := Aside0.mk (Kd.R_below (by (with_reducible repeat (first | apply Kd.R_alloc | apply Kd.R_drewN | apply Kd.R_drew)); exact HO_5.out) hb); have n1_ := Aside0.mk (Kd.R_lower ho8 (below_size (by repeat (first | (with_reducible first | exact HB.out | apply below_alloc | apply pw_below_drewN | apply below_drew1 | refine below_set ?_ GE152.out) | exact HB.out)))); have n2_ := Aside0.mk (blk_below (g := gb152) (o := .cells #[.bool a1_0, .bool a1_1, .bool a1_2] 31 (0, 0)) (by (with_reducible repeat (first | refine blk_drewN ?_ _ | refine blk_drew ?_ | refine blk_alloc ?_ _)); exact BK152.out) hb); have n3_ := Aside0.mk (below_step (by repeat (first | (with_reducible first | exact HB.out | apply below_alloc | apply pw_below_drewN | apply below_drew1 | refine below_set ?_ GE152.out) | exact HB.out)) hb); clear HO_5; clear BK152; clear HB; have HO_5 := n0_; have HO158 := n1_; have BK152 := n2_; have HB := n3_; clear n0_ n1_ n2_ n3_; clear hb ho8; obtain ⟨Ao9, co9, eo9⟩ := Kd.R_slice HO158.out; subst eo9))
        go_loopg [5, 20] k1 (fun kq v5 v20 w' => ∃ (x5_2 : List (S58)) (x20_2 : Int), v20 = .int .i64 x20_2 ∧ Aside0 (impl_movesBy.l1 kq a0 x5_2 x15_1 (a0.size : Int) x15_1 y156 (y156.length : Int) x20_2 a1_0 a1_1 a1_2 = some r) ∧ Aside0 (kq ≤ k1) ∧ Aside0 (Kd.R k58 58 w' w.heap.size (fun _ => True) v5 x5_2) ∧ Aside0 (Kd.R (Kd.int .i64) 3 w' w.heap.size (fun _ => True) (.slice Ao9 y156.length co9) y156) ∧ Aside0 (w'.heap[gb152]? = some (.cells #[.bool a1_0, .bool a1_1, .bool a1_2] 31 (0, 0))) ∧ Aside0 (Below w.heap.size w w'))
        case atStart => exact ⟨(x5_1), (0), (by first | rfl | (simp; done) | (simp [*]; done)), H', ⟨Nat.le_refl _⟩, ⟨by (with_reducible repeat (first | apply Kd.R_alloc | apply Kd.R_drewN | apply Kd.R_drew)); exact HO_5.out⟩, ⟨by (with_reducible repeat (first | apply Kd.R_alloc | apply Kd.R_drewN | apply Kd.R_drew)); exact HO158.out⟩, ⟨by (with_reducible repeat (first | refine blk_drewN ?_ _ | refine blk_drew ?_ | refine blk_alloc ?_ _)); exact BK152.out⟩, ⟨by repeat (first | (with_reducible first | exact HB.out | apply below_alloc | apply pw_below_drewN | apply below_drew1 | refine below_set ?_ GE152.out) | exact HB.out)⟩⟩
        case round =>
          clear H'
          try clear p2
          try clear c4
          try clear c6
          try clear c6b0
          try clear p2
          obtain ⟨x5_2, x20_2, rfl, HA, HK2, HO_5, HO_18, BK152, HB⟩ := hrel
          cases gk with
          | zero => exact absurd HA.out (by simp [impl_movesBy.l1])
          | succ k2 =>
            have H := HA.out
            clear HA
            simp only [impl_movesBy.l1] at H
            by_cases c10 : x20_2 < (y156.length : Int)
            · rw [if_pos c10] at H
              have c10b0 : decide (x20_2 < (y156.length : Int)) = true := decide_eq_true c10
              clear c10
              by_cases c11 : 0 ≤ x20_2
              · rw [if_pos c11] at H
                have c11b0 : decide (0 ≤ x20_2) = true := decide_eq_true c11
                clear c11
                by_cases c12 : x20_2 < (y156.length : Int)
                · rw [if_pos c12] at H
                  have c12b0 : decide (x20_2 < (y156.length : Int)) = true := decide_eq_true c12
                  clear c12
                  by_cases c13 : 0 ≤ x15_1
                  · rw [if_pos c13] at H
                    have c13b0 : decide (0 ≤ x15_1) = true := decide_eq_true c13
                    clear c13
                    by_cases c14 : x15_1 < (a0.size : Int)
                    · rw [if_pos c14] at H
                      have c14b0 : decide (x15_1 < (a0.size : Int)) = true := decide_eq_true c14
                      clear c14
                      replace H := Option.bind_eq_some_iff.mp H
                      obtain ⟨t160, A160, H⟩ := H
                      replace H : (if t160 = 0 then (impl_movesBy.j2 k2 a0 x5_2 x15_1 (rd y156 x20_2) (a0.size : Int) x15_1 y156 (y156.length : Int) x20_2 true a1_0 a1_1 a1_2) else (if t160 = (rd y156 x20_2) then (impl_movesBy.j2 k2 a0 x5_2 x15_1 (rd y156 x20_2) (a0.size : Int) x15_1 y156 (y156.length : Int) x20_2 false a1_0 a1_1 a1_2) else (impl_movesBy.j2 k2 a0 x5_2 x15_1 (rd y156 x20_2) (a0.size : Int) x15_1 y156 (y156.length : Int) x20_2 (!a1_1) a1_0 a1_1 a1_2))) = some r := H
                      have A16 := Aside0.mk A160
                      clear A160
                      have HC17 := Aside0.mk H
                      clear H
                      have p159 : 0 ≤ (x20_2 : Int) := of_decide_eq_true (by first | (with_reducible assumption) | assumption)
                      have q159 : x20_2 < (y156.length : Int) := of_decide_eq_true (by first | (with_reducible assumption) | assumption)
                      obtain ⟨ad159, e159, hx159_0⟩ := Kd.at_int (Kd.R_reads' HO_18.out).2.2 x20_2 p159 q159
                      cases e159
                      replace p159 := eq_true p159
                      replace q159 := eq_true q159
                      have p15 : 0 ≤ (x15_1 : Int) := of_decide_eq_true (by first | (with_reducible assumption) | assumption)
                      have q15 : x15_1 < (a0.size : Int) := of_decide_eq_true (by first | (with_reducible assumption) | assumption)
                      have hx15 := bt_at a0 x15_1
                      replace p15 := eq_true p15
                      replace q15 := eq_true q15
                      go_upto_region 9 with (first | ((with_reducible refine gate_callee (f := 58) rfl ?_); refine goesL_ (some 27) rfl rfl Try.func58 (by kernel_rfl) rfl #[.int .u8 (bt a0 x15_1)] rfl (by (try simp only [List.map_toArray, List.map_cons, List.map_nil]); first | done | rfl | (simp only [List.length_drop, List.length_take]; rfl)) ?_; (with_reducible refine (impl_stepOf.calls (bt a0 x15_1) t160 _ A16.out).mono ?_); rintro e w' ⟨rfl, ⟨nd, rfl⟩⟩; refine ⟨_, rfl, ?_⟩))
                      (try simp only [Act.put, List.setIfInBounds_toArray, List.set_cons_zero, List.set_cons_succ])
                      go_cut [39] (fun v39 wc => ∃ (kq : Nat) (x39_16 : Bool), v39 = .bool x39_16 ∧ Aside0 (impl_movesBy.j2 kq a0 x5_2 x15_1 (rd y156 x20_2) (a0.size : Int) x15_1 y156 (y156.length : Int) x20_2 x39_16 a1_0 a1_1 a1_2 = some r) ∧ Aside0 (kq ≤ k2) ∧ Aside0 (Kd.R k58 58 wc w.heap.size (fun _ => True) u5 x5_2) ∧ Aside0 (Kd.R (Kd.int .i64) 3 wc w.heap.size (fun _ => True) (.slice (some ad159) y156.length co9) y156) ∧ Aside0 (wc.heap[gb152]? = some (.cells #[.bool a1_0, .bool a1_1, .bool a1_2] 31 (0, 0))) ∧ Aside0 (Below w.heap.size w wc))
                      case first =>
                        have H := HC17.out
                        clear HC17
                        by_cases c18 : t160 = 0
                        · rw [if_pos c18] at H
                          have c18b0 : (t160 == 0) = true := beq_iff_eq.mpr c18
                          have c18b1 : (t160 != 0) = false := bne_eq_false_iff_eq.mpr c18
                          clear c18
                          (first | rw [c18b0] | (simp only [i64_w, i32_w]; rw [c18b0]) | skip)
                          have H' := Aside0.mk H
                          clear H
                          go_wp2
                          go_meet
                          case rel => exact ⟨_, (true), (by first | rfl | (simp; done) | (simp [*]; done)), H', ⟨by have := HK1.out; have := HK2.out; first | omega | exact Nat.le_refl _⟩, ⟨by (with_reducible repeat (first | apply Kd.R_alloc | apply Kd.R_drewN | apply Kd.R_drew)); exact HO_5.out⟩, ⟨by (with_reducible repeat (first | apply Kd.R_alloc | apply Kd.R_drewN | apply Kd.R_drew)); exact HO_18.out⟩, ⟨by (with_reducible repeat (first | refine blk_drewN ?_ _ | refine blk_drew ?_ | refine blk_alloc ?_ _)); exact BK152.out⟩, ⟨by repeat (first | (with_reducible first | exact HB.out | apply below_alloc | apply pw_below_drewN | apply below_drew1 | refine below_set ?_ GE152.out) | exact HB.out)⟩⟩
                        · rw [if_neg c18] at H
                          have c18b0 : (t160 == 0) = false := beq_eq_false_iff_ne.mpr c18
                          have c18b1 : (t160 != 0) = true := bne_iff_ne.mpr c18
                          (first | rw [c18b0] | (simp only [i64_w, i32_w]; rw [c18b0]) | skip)
                          by_cases c19 : t160 = (rd y156 x20_2)
                          · rw [if_pos c19] at H
                            have c19b0 : (t160 == (rd y156 x20_2)) = true := beq_iff_eq.mpr c19
                            have c19b1 : (t160 != (rd y156 x20_2)) = false := bne_eq_false_iff_eq.mpr c19
                            clear c19
                            have H' := Aside0.mk H
                            clear H
                            go_wp2
                            go_meet
                            case rel => exact ⟨_, (false), (by first | rfl | (simp; done) | (simp [*]; done)), H', ⟨by have := HK1.out; have := HK2.out; first | omega | exact Nat.le_refl _⟩, ⟨by (with_reducible repeat (first | apply Kd.R_alloc | apply Kd.R_drewN | apply Kd.R_drew)); exact HO_5.out⟩, ⟨by (with_reducible repeat (first | apply Kd.R_alloc | apply Kd.R_drewN | apply Kd.R_drew)); exact HO_18.out⟩, ⟨by (with_reducible repeat (first | refine blk_drewN ?_ _ | refine blk_drew ?_ | refine blk_alloc ?_ _)); exact BK152.out⟩, ⟨by repeat (first | (with_reducible first | exact HB.out | apply below_alloc | apply pw_below_drewN | apply below_drew1 | refine below_set ?_ GE152.out) | exact HB.out)⟩⟩
                          · rw [if_neg c19] at H
                            have c19b0 : (t160 == (rd y156 x20_2)) = false := beq_eq_false_iff_ne.mpr c19
                            have c19b1 : (t160 != (rd y156 x20_2)) = true := bne_iff_ne.mpr c19
                            have H' := Aside0.mk H
                            clear H
                            have hcz20_0 : wr.cell? ⟨gb152, 0, none⟩ = some (.bool a1_0) := (blk_cell BK152.out 0).trans rfl
                            have hcz20_1 : wr.cell? ⟨gb152, 1, none⟩ = some (.bool a1_1) := (blk_cell BK152.out 1).trans rfl
                            have hcz20_2 : wr.cell? ⟨gb152, 2, none⟩ = some (.bool a1_2) := (blk_cell BK152.out 2).trans rfl
                            have hfz20_0 := blk_frozen BK152.out 0
                            have hfz20_1 := blk_frozen BK152.out 1
                            have hfz20_2 := blk_frozen BK152.out 2
                            go_wp2
                            go_meet
                            case rel => exact ⟨_, (!a1_1), (by first | rfl | (simp; done) | (simp [*]; done)), H', ⟨by have := HK1.out; have := HK2.out; first | omega | exact Nat.le_refl _⟩, ⟨by (with_reducible repeat (first | apply Kd.R_alloc | apply Kd.R_drewN | apply Kd.R_drew)); exact HO_5.out⟩, ⟨by (with_reducible repeat (first | apply Kd.R_alloc | apply Kd.R_drewN | apply Kd.R_drew)); exact HO_18.out⟩, ⟨by (with_reducible repeat (first | refine blk_drewN ?_ _ | refine blk_drew ?_ | refine blk_alloc ?_ _)); exact BK152.out⟩, ⟨by repeat (first | (with_reducible first | exact HB.out | apply below_alloc | apply pw_below_drewN | apply below_drew1 | refine below_set ?_ GE152.out) | exact HB.out)⟩⟩
                      case rest =>
                        clear HC17
                        try clear c1
                        try clear p1
                        try clear q1
                        try clear hx1
                        try clear p2
                        try clear c4
                        try clear c5
                        try clear c6
                        try clear c6b0
                        try clear c10
                        try clear c10b0
                        try clear c11
                        try clear c11b0
                        try clear c12
                        try clear c12b0
                        try clear c13
                        try clear c13b0
                        try clear c14
                        try clear c14b0
                        try clear p15
                        try clear q15
                        try clear hx15
                        try clear c18
                        try clear c18b0
                        try clear c18b1
                        try clear c19
                        try clear c19b0
                        try clear c19b1
                        try clear hcz20_0
                        try clear hcz20_1
                        try clear hcz20_2
                        try clear hfz20_0
                        try clear hfz20_1
                        try clear hfz20_2
                        try clear hx159_0
                        try clear p15
                        try clear p159
                        try clear p2
                        try clear q15
                        try clear q159
                        obtain ⟨kq, x39_16, rfl, HA, HJ16, HO_5, HO_18, BK152, HB⟩ := hcut
                        cases kq with
                        | zero => exact absurd HA.out (by simp [impl_movesBy.j2])
                        | succ kj16 =>
                          have H := HA.out
                          clear HA
                          simp only [impl_movesBy.j2] at H
                          by_cases c21 : x39_16 = true
                          · subst c21
                            have H1 : (impl_movesBy.l1 kj16 a0 x5_2 x15_1 (a0.size : Int) x15_1 y156 (y156.length : Int) (wrap64 (x20_2 + 1)) a1_0 a1_1 a1_2) = some r := by rw [if_pos rfl] at H; exact H
                            clear H
                            have H := H1
                            clear H1
                            have H' := Aside0.mk H
                            clear H
                            go_wp2
                            go_roundg kj16
                            case measure => have := HK1.out; have := HK2.out; have := HJ16.out; omega
                            case rel => exact ⟨(x5_2), (wrap64 (x20_2 + 1)), (by first | rfl | (simp; done) | (simp [*]; done)), H', ⟨by have := HK1.out; have := HK2.out; have := HJ16.out; omega⟩, ⟨by (with_reducible repeat (first | apply Kd.R_alloc | apply Kd.R_drewN | apply Kd.R_drew)); exact HO_5.out⟩, ⟨by (with_reducible repeat (first | apply Kd.R_alloc | apply Kd.R_drewN | apply Kd.R_drew)); exact HO_18.out⟩, ⟨by (with_reducible repeat (first | refine blk_drewN ?_ _ | refine blk_drew ?_ | refine blk_alloc ?_ _)); exact BK152.out⟩, ⟨by repeat (first | (with_reducible first | exact HB.out | apply below_alloc | apply pw_below_drewN | apply below_drew1 | refine below_set ?_ GE152.out) | exact HB.out)⟩⟩
                          · replace c21 := Bool.eq_false_iff.mpr c21
                            subst c21
                            have H1 : ((impl_goalBy.f kj16 a0 x15_1 (rd y156 x20_2) a1_0 a1_1 a1_2).bind fun bt161 => (if bt161.2 = true then (if x5_2.length < 8796093022208 then (impl_movesBy.l1 kj16 a0 (x5_2 ++ [(⟨x15_1, bt161.1⟩ : S58)]) x15_1 (a0.size : Int) x15_1 y156 (y156.length : Int) (wrap64 (x20_2 + 1)) a1_0 a1_1 a1_2) else (none)) else (impl_movesBy.l1 kj16 a0 x5_2 x15_1 (a0.size : Int) x15_1 y156 (y156.length : Int) (wrap64 (x20_2 + 1)) a1_0 a1_1 a1_2))) = some r := by rw [if_neg (show ¬ (false = true) by decide)] at H; exact H
                            clear H
                            have H := H1
                            clear H1
                            replace H := Option.bind_eq_some_iff.mp H
                            obtain ⟨⟨t161, t162⟩, A220, H⟩ := H
                            replace H : (if t162 = true then (if x5_2.length < 8796093022208 then (impl_movesBy.l1 kj16 a0 (x5_2 ++ [(⟨x15_1, t161⟩ : S58)]) x15_1 (a0.size : Int) x15_1 y156 (y156.length : Int) (wrap64 (x20_2 + 1)) a1_0 a1_1 a1_2) else (none)) else (impl_movesBy.l1 kj16 a0 x5_2 x15_1 (a0.size : Int) x15_1 y156 (y156.length : Int) (wrap64 (x20_2 + 1)) a1_0 a1_1 a1_2)) = some r := H
                            have A22 := Aside0.mk A220
                            clear A220
                            by_cases c23 : t162 = true
                            · subst c23
                              have H1 : (if x5_2.length < 8796093022208 then (impl_movesBy.l1 kj16 a0 (x5_2 ++ [(⟨x15_1, t161⟩ : S58)]) x15_1 (a0.size : Int) x15_1 y156 (y156.length : Int) (wrap64 (x20_2 + 1)) a1_0 a1_1 a1_2) else (none)) = some r := by rw [if_pos rfl] at H; exact H
                              clear H
                              have H := H1
                              clear H1
                              by_cases c24 : x5_2.length < 8796093022208
                              · rw [if_pos c24] at H
                                have LMc24 := Aside0.mk c24
                                clear c24
                                obtain ⟨y163, hy163⟩ : ∃ y_ : List (S58), y_ = (x5_2 ++ [(⟨x15_1, t161⟩ : S58)]) := ⟨_, rfl⟩
                                replace H : (impl_movesBy.l1 kj16 a0 y163 x15_1 (a0.size : Int) x15_1 y156 (y156.length : Int) (wrap64 (x20_2 + 1)) a1_0 a1_1 a1_2) = some r := by first | (rw [hy163]; with_reducible exact H) | (have H2_ := (Option.bind_some _ _).symm.trans H; rw [hy163]; with_reducible exact H2_) | (have H2_ := (Option.bind_some _ _).symm.trans H; with_reducible exact H2_) | with_reducible exact H | (rw [hy163]; exact H) | exact H
                                have Ny163 := Aside0.mk hy163
                                clear hy163
                                have H' := Aside0.mk H
                                clear H
                                have hcz25_0 : wc.cell? ⟨gb152, 0, none⟩ = some (.bool a1_0) := (blk_cell BK152.out 0).trans rfl
                                have hcz25_1 : wc.cell? ⟨gb152, 1, none⟩ = some (.bool a1_1) := (blk_cell BK152.out 1).trans rfl
                                have hcz25_2 : wc.cell? ⟨gb152, 2, none⟩ = some (.bool a1_2) := (blk_cell BK152.out 2).trans rfl
                                have hfz25_0 := blk_frozen BK152.out 0
                                have hfz25_1 := blk_frozen BK152.out 1
                                have hfz25_2 := blk_frozen BK152.out 2
                                go_wp2_with (first | ((with_reducible refine gate_callee (f := 63) rfl ?_); refine goesL_ (some 45) rfl rfl Try.func63 (by kernel_rfl) rfl #[.string a0, .int .i64 x15_1, .int .i64 (rd y156 x20_2), .agg #[.bool a1_0, .bool a1_1, .bool a1_2]] rfl (by (try simp only [List.map_toArray, List.map_cons, List.map_nil]); first | done | rfl | (simp only [List.length_drop, List.length_take]; rfl)) ?_; (with_reducible refine (impl_goalBy.calls kj16 a0 x15_1 (rd y156 x20_2) a1_0 a1_1 a1_2 t161 true _ A22.out).mono ?_); rintro e w26 ⟨rfl, hb⟩; refine ⟨_, rfl, ?_⟩; have n0_ := Aside0.mk (Kd.R_below (by (with_reducible repeat (first | apply Kd.R_alloc | apply Kd.R_drewN | apply Kd.R_drew)); exact HO_5.out) hb); have n1_ := Aside0.mk (Kd.R_below (by (with_reducible repeat (first | apply Kd.R_alloc | apply Kd.R_drewN | apply Kd.R_drew)); exact HO_18.out) hb); have n2_ := Aside0.mk (blk_below (g := gb152) (o := .cells #[.bool a1_0, .bool a1_1, .bool a1_2] 31 (0, 0)) (by (with_reducible repeat (first | refine blk_drewN ?_ _ | refine blk_drew ?_ | refine blk_alloc ?_ _)); exact BK152.out) hb); have n3_ := Aside0.mk (below_step (by repeat (first | (with_reducible first | exact HB.out | apply below_alloc | apply pw_below_drewN | apply below_drew1 | refine below_set ?_ GE152.out) | exact HB.out)) hb); clear HO_5; clear HO_18; clear BK152; clear HB; have HO_5 := n0_; have HO_18 := n1_; have BK152 := n2_; have HB := n3_; clear n0_ n1_ n2_ n3_; (try clear hb); (try clear hb2); (try clear hk); (try clear hi)) | ((with_reducible refine gate_builtin (b := .append) (xs := #[.tmp 49, .tmp 53]) rfl ?_); at_builtin; refine Kd.R_append k58 (w0 := w) w.heap.size rfl (.tmp 49) (.tmp 53) 47 58 (.agg #[(.int .i64 0), (.int .i64 0)]) 16 rfl Try.underlying47 info58 rfl (by decide) (by omega) u5 x5_2 (⟨x15_1, t161⟩ : S58) [.int .i64 x15_1, .int .i64 t161] (fun _ => True) (fun _ => False) rfl rfl ?aP (fun _ hk => hk.elim) ?aF ?aO ?aB ?aS ?aL ?_; (case aP => exact k58_mkM _ _ _ (⟨x15_1, t161⟩ : S58)); (case aB => exact (by repeat (first | (with_reducible first | exact HB.out | apply below_alloc | apply pw_below_drewN | apply below_drew1 | refine below_set ?_ GE152.out) | exact HB.out))); (case aF => exact (fun _ _ => trivial)); (case aO => exact (by (with_reducible repeat (first | apply Kd.R_alloc | apply Kd.R_drewN | apply Kd.R_drew)); exact HO_5.out)); (case aS => exact (below_size (by repeat (first | (with_reducible first | exact HB.out | apply below_alloc | apply pw_below_drewN | apply below_drew1 | refine below_set ?_ GE152.out) | exact HB.out)))); (case aL => have := LMc24.out; omega); intro v164 w27 ho hb hg hat; rw [← Ny163.out] at ho; have n0_ := Aside0.mk (Kd.R_over' (by (with_reducible repeat (first | apply Kd.R_alloc | apply Kd.R_drewN | apply Kd.R_drew)); exact HO_18.out) (Kd.R_typed (by (with_reducible repeat (first | apply Kd.R_alloc | apply Kd.R_drewN | apply Kd.R_drew)); exact HO_5.out)) (by decide) hg); have n1_ := Aside0.mk (blk_grown (g := gb152) (o := .cells #[.bool a1_0, .bool a1_1, .bool a1_2] 31 (0, 0)) (by (with_reducible repeat (first | refine blk_drewN ?_ _ | refine blk_drew ?_ | refine blk_alloc ?_ _)); exact BK152.out) hg (Kd.R_ne HO_5.out BK152.out (by decide))); have n2_ := Aside0.mk (hb); have n3_ := Aside0.mk (ho); clear HO_18; clear BK152; clear HB; clear HO_5; have HO_18 := n0_; have BK152 := n1_; have HB := n2_; have HO165 := n3_; clear n0_ n1_ n2_ n3_; clear ho hb hg hat))
                                go_roundg kj16
                                case measure => have := HK1.out; have := HK2.out; have := HJ16.out; omega
                                case rel => exact ⟨(y163), (wrap64 (x20_2 + 1)), (by first | rfl | (simp; done) | (simp [*]; done)), H', ⟨by have := HK1.out; have := HK2.out; have := HJ16.out; omega⟩, ⟨by (with_reducible repeat (first | apply Kd.R_alloc | apply Kd.R_drewN | apply Kd.R_drew)); exact HO165.out⟩, ⟨by (with_reducible repeat (first | apply Kd.R_alloc | apply Kd.R_drewN | apply Kd.R_drew)); exact HO_18.out⟩, ⟨by (with_reducible repeat (first | refine blk_drewN ?_ _ | refine blk_drew ?_ | refine blk_alloc ?_ _)); exact BK152.out⟩, ⟨by repeat (first | (with_reducible first | exact HB.out | apply below_alloc | apply pw_below_drewN | apply below_drew1 | refine below_set ?_ GE152.out) | exact HB.out)⟩⟩
                              · rw [if_neg c24] at H
                                exact absurd H (by simp)
                            · replace c23 := Bool.eq_false_iff.mpr c23
                              subst c23
                              have H1 : (impl_movesBy.l1 kj16 a0 x5_2 x15_1 (a0.size : Int) x15_1 y156 (y156.length : Int) (wrap64 (x20_2 + 1)) a1_0 a1_1 a1_2) = some r := by rw [if_neg (show ¬ (false = true) by decide)] at H; exact H
                              clear H
                              have H := H1
                              clear H1
                              have H' := Aside0.mk H
                              clear H
                              have hcz28_0 : wc.cell? ⟨gb152, 0, none⟩ = some (.bool a1_0) := (blk_cell BK152.out 0).trans rfl
                              have hcz28_1 : wc.cell? ⟨gb152, 1, none⟩ = some (.bool a1_1) := (blk_cell BK152.out 1).trans rfl
                              have hcz28_2 : wc.cell? ⟨gb152, 2, none⟩ = some (.bool a1_2) := (blk_cell BK152.out 2).trans rfl
                              have hfz28_0 := blk_frozen BK152.out 0
                              have hfz28_1 := blk_frozen BK152.out 1
                              have hfz28_2 := blk_frozen BK152.out 2
                              go_wp2_with (first | ((with_reducible refine gate_callee (f := 63) rfl ?_); refine goesL_ (some 45) rfl rfl Try.func63 (by kernel_rfl) rfl #[.string a0, .int .i64 x15_1, .int .i64 (rd y156 x20_2), .agg #[.bool a1_0, .bool a1_1, .bool a1_2]] rfl (by (try simp only [List.map_toArray, List.map_cons, List.map_nil]); first | done | rfl | (simp only [List.length_drop, List.length_take]; rfl)) ?_; (with_reducible refine (impl_goalBy.calls kj16 a0 x15_1 (rd y156 x20_2) a1_0 a1_1 a1_2 t161 false _ A22.out).mono ?_); rintro e w29 ⟨rfl, hb⟩; refine ⟨_, rfl, ?_⟩; have n0_ := Aside0.mk (Kd.R_below (by (with_reducible repeat (first | apply Kd.R_alloc | apply Kd.R_drewN | apply Kd.R_drew)); exact HO_5.out) hb); have n1_ := Aside0.mk (Kd.R_below (by (with_reducible repeat (first | apply Kd.R_alloc | apply Kd.R_drewN | apply Kd.R_drew)); exact HO_18.out) hb); have n2_ := Aside0.mk (blk_below (g := gb152) (o := .cells #[.bool a1_0, .bool a1_1, .bool a1_2] 31 (0, 0)) (by (with_reducible repeat (first | refine blk_drewN ?_ _ | refine blk_drew ?_ | refine blk_alloc ?_ _)); exact BK152.out) hb); have n3_ := Aside0.mk (below_step (by repeat (first | (with_reducible first | exact HB.out | apply below_alloc | apply pw_below_drewN | apply below_drew1 | refine below_set ?_ GE152.out) | exact HB.out)) hb); clear HO_5; clear HO_18; clear BK152; clear HB; have HO_5 := n0_; have HO_18 := n1_; have BK152 := n2_; have HB := n3_; clear n0_ n1_ n2_ n3_; (try clear hb); (try clear hb2); (try clear hk); (try clear hi)))
                              go_roundg kj16
                              case measure => have := HK1.out; have := HK2.out; have := HJ16.out; omega
                              case rel => exact ⟨(x5_2), (wrap64 (x20_2 + 1)), (by first | rfl | (simp; done) | (simp [*]; done)), H', ⟨by have := HK1.out; have := HK2.out; have := HJ16.out; omega⟩, ⟨by (with_reducible repeat (first | apply Kd.R_alloc | apply Kd.R_drewN | apply Kd.R_drew)); exact HO_5.out⟩, ⟨by (with_reducible repeat (first | apply Kd.R_alloc | apply Kd.R_drewN | apply Kd.R_drew)); exact HO_18.out⟩, ⟨by (with_reducible repeat (first | refine blk_drewN ?_ _ | refine blk_drew ?_ | refine blk_alloc ?_ _)); exact BK152.out⟩, ⟨by repeat (first | (with_reducible first | exact HB.out | apply below_alloc | apply pw_below_drewN | apply below_drew1 | refine below_set ?_ GE152.out) | exact HB.out)⟩⟩
                    · rw [if_neg c14] at H
                      exact absurd H (by simp)
                  · rw [if_neg c13] at H
                    exact absurd H (by simp)
                · rw [if_neg c12] at H
                  exact absurd H (by simp)
              · rw [if_neg c11] at H
                exact absurd H (by simp)
            · rw [if_neg c10] at H
              have c10b0 : decide (x20_2 < (y156.length : Int)) = false := decide_eq_false c10
              clear c10
              have H' := Aside0.mk H
              clear H
              go_wp2
              go_roundg k2
              case measure => have := HK1.out; have := HK2.out; omega
              case rel => exact ⟨(x5_2), (wrap64 (x15_1 + 1)), (by first | rfl | (simp; done) | (simp [*]; done)), H', ⟨by have := HK1.out; have := HK2.out; omega⟩, ⟨by (with_reducible repeat (first | apply Kd.R_alloc | apply Kd.R_drewN | apply Kd.R_drew)); exact HO_5.out⟩, ⟨by (with_reducible repeat (first | refine blk_drewN ?_ _ | refine blk_drew ?_ | refine blk_alloc ?_ _)); exact BK152.out⟩, ⟨by repeat (first | (with_reducible first | exact HB.out | apply below_alloc | apply pw_below_drewN | apply below_drew1 | refine below_set ?_ GE152.out) | exact HB.out)⟩⟩
      · rw [if_neg c6] at H
        have c6b0 : decide (x15_1 < (a0.size : Int)) = false := decide_eq_false c6
        clear c6
        obtain rfl := Option.some.inj H
        go_wp2
        go_ret
        exact ⟨_, by first | rfl | (simp [errW_none, errW_some] <;> rfl) | (simp [*, errW_none, errW_some] <;> rfl), by (with_reducible repeat (first | apply Kd.R_alloc | apply Kd.R_drewN | apply Kd.R_drew)); exact HO_5.out, by repeat (first | (with_reducible first | exact HB.out | apply below_alloc | apply pw_below_drewN | apply below_drew1 | refine below_set ?_ GE152.out) | exact HB.out)⟩

/-! ### impl_CountStuck: function 17 (given) -/
section
open Go Go.RowKit Go.Lib Go.Proofs.YtpelhinjoambfaaW.PrintWords Go.Proofs.YtpelhinjoambfaaW.PrintLast Go.Proofs.Ytpelhinjoambfaa.Ranks
-- uses impl_allLines.calls impl_movesBy.calls impl_areCounts.calls
/-- how many of some texts a condition holds for, if it is told for all -/
def cntO (c : ByteArray → Option Bool) (l : List ByteArray) : Option Nat := if l.all (fun s => (c s).isSome) = true then some (l.countP fun s => c s == some true) else none
theorem cntO_all {c : ByteArray → Option Bool} {l : List ByteArray} {n : Nat} (h : cntO c l = some n) : (∀ s ∈ l, ∃ b, c s = some b) ∧ n = l.countP fun s => c s == some true := by
  unfold cntO at h
  split at h
  · rename_i hh
    cases h
    exact ⟨fun s hs => Option.isSome_iff_exists.1 (List.all_eq_true.1 hh s hs), rfl⟩
  · cases h
/-- what lay below a mark stays, and what a walk over all lines leans on -/
structure Kc (m : Nat) (w w' : World) : Prop where
  sz : w.heap.size ≤ w'.heap.size
  bl : m ≤ w.heap.size → Below m w w'
  kt : KT w w'
theorem Kc.below {m : Nat} {w w' : World} (h : Below w.heap.size w w') : Kc m w w' := ⟨h.size, fun hm => h.mono hm, KT.below h⟩
theorem Kc.trans {m : Nat} {w w1 w2 : World} (h : Kc m w w1) (k : Kc m w1 w2) : Kc m w w2 := ⟨Nat.le_trans h.sz k.sz, fun hm => (h.bl hm).trans (k.bl (Nat.le_trans hm h.sz)), h.kt.trans k.kt⟩
theorem Kc.set {m cb : Nat} {w : World} {x : Value} (hm : m ≤ cb) (hb : w.heap[cb]? = some (.cells #[x] 3 (0, 0))) (j : Nat) (u : Value) : Kc m w (w.setCell ⟨cb, j, none⟩ u) :=
  ⟨by simp, fun _ => (Below.refl m w).setCell (p := ⟨cb, j, none⟩) hm u, ⟨by simp, fun k cells t hc ht => Below.heap_setCell w ⟨cb, j, none⟩ u k (fun e => by
    rw [e] at hc
    replace hc : w.heap[cb]? = some (.cells cells t (0, 0)) := hc
    rw [hb] at hc
    cases hc
    exact absurd ht (by decide))⟩⟩
/-- the count, in its box; another box stays -/
structure Cn (cb ob : Nat) (o : Obj) (c : ByteArray → Option Bool) (done : List ByteArray) (w : World) : Prop where
  n : w.heap[cb]? = some (.cells #[.int .i64 ((done.countP fun s => c s == some true : Nat) : Int)] 3 (0, 0))
  o : w.heap[ob]? = some o
  ne : ob ≠ cb
theorem Cn.below {cb ob : Nat} {o : Obj} {c : ByteArray → Option Bool} {done : List ByteArray} {w w' : World} (h : Cn cb ob o c done w) (hb : Below w.heap.size w w') : Cn cb ob o c done w' := ⟨(hb.block cb (Array.getElem?_eq_some_iff.1 h.n).1).trans h.n, (hb.block ob (Array.getElem?_eq_some_iff.1 h.o).1).trans h.o, h.ne⟩
theorem countP_yes {c : ByteArray → Option Bool} {done : List ByteArray} {s : ByteArray} (h : c s = some true) : (done ++ [s]).countP (fun s => c s == some true) = done.countP (fun s => c s == some true) + 1 := by
  rw [List.countP_append, List.countP_singleton, h]
  rfl
theorem countP_no {c : ByteArray → Option Bool} {done : List ByteArray} {s : ByteArray} (h : c s = some false) : (done ++ [s]).countP (fun s => c s == some true) = done.countP (fun s => c s == some true) := by
  rw [List.countP_append, List.countP_singleton, h]
  rfl
def stkC (o b l : Bool) (s : ByteArray) : Option Bool := (impl_movesBy.f 2000 s o b l).bind fun ms => some ((ms.length : Int) == 0)
set_option maxHeartbeats 4000000 in
set_option maxRecDepth 1000000 in
theorem st1_walk (o b l : Bool) (rb cb m : Nat) (hm : m ≤ cb) (done : List ByteArray) (s : ByteArray) (W : World) (hdl : done.length < 1000000) (hI : Cn cb rb (.cells #[.bool o, .bool b, .bool l] 31 (0, 0)) (stkC o b l) done W) (hP : ∃ q, stkC o b l s = some q) :
    Calls Try.prog 41 (#[.string s] ++ #[.pointer (some ⟨rb, 0, none⟩), .pointer (some ⟨cb, 0, none⟩)]) W fun e W' => e = .returned (.tuple #[]) ∧ Cn cb rb (.cells #[.bool o, .bool b, .bool l] 31 (0, 0)) (stkC o b l) (done ++ [s]) W' ∧ Kc m W W' := by
  obtain ⟨q, hq⟩ := hP
  have hq' := hq
  unfold stkC at hq'
  obtain ⟨ms, hms, hq'⟩ := Option.bind_eq_some_iff.mp hq'
  have hcn : done.countP (fun s => stkC o b l s == some true) < 1000000 := Nat.lt_of_le_of_lt List.countP_le_length hdl
  have HI := Aside0.mk hI
  have c0 : W.cell? ⟨rb, 0, none⟩ = some (.bool o) := (blk_cell hI.o 0).trans rfl
  have c1 : W.cell? ⟨rb, 1, none⟩ = some (.bool b) := (blk_cell hI.o 1).trans rfl
  have c2 : W.cell? ⟨rb, 2, none⟩ = some (.bool l) := (blk_cell hI.o 2).trans rfl
  clear hI
  cases hz : ((ms.length : Int) == 0) with
  | false =>
    rw [hz] at hq'
    obtain rfl := Option.some.inj hq'
    clear hq'
    go_enter Try.func41, Try.ntmps41
    go_wp2_with (first
      | (go_at_call 42; refine (impl_movesBy.calls 2000 s o b l ms _ hms).mono ?_; rintro e1 w1 ⟨v, rfl, hr, hy⟩; obtain ⟨A, c, hzz⟩ := Kd.R_slice hr; subst hzz))
    go_end0
    have h1 := HI.out.below hy
    exact ⟨rfl, ⟨by rw [countP_no hq]; exact h1.n, h1.o, h1.ne⟩, Kc.below hy⟩
  | true =>
    rw [hz] at hq'
    obtain rfl := Option.some.inj hq'
    clear hq'
    go_enter Try.func41, Try.ntmps41
    go_wp2_with (first
      | (go_at_call 42; refine (impl_movesBy.calls 2000 s o b l ms _ hms).mono ?_; rintro e1 w1 ⟨v, rfl, hr, hy⟩; obtain ⟨A, c, hzz⟩ := Kd.R_slice hr; subst hzz; have h2 := HI.out.below hy; have hnc : w1.cell? ⟨cb, 0, none⟩ = some (.int .i64 ((done.countP fun s => stkC o b l s == some true : Nat) : Int)) := (blk_cell h2.n 0).trans rfl; have hnf := blk_frozen h2.n 0))
    go_end0
    have ew : (((done.countP fun s => stkC o b l s == some true : Nat) : Int) + 1) = ((((done ++ [s]).countP fun s => stkC o b l s == some true : Nat)) : Int) := by rw [countP_yes hq]; rfl
    refine ⟨rfl, ⟨?_, (Below.heap_setCell w1 ⟨cb, 0, none⟩ _ rb h2.ne).trans h2.o, h2.ne⟩, (Kc.below hy).trans (Kc.set hm h2.n 0 _)⟩
    rw [← ew]
    exact blk_put h2.n 0 _ rfl
set_option maxHeartbeats 4000000 in
set_option maxRecDepth 1000000 in
theorem impl_CountStuck.no1 (o b l : Bool) (a0 a1 a2 : Int) (w : World) (h : impl_areCounts.f a0 a1 a2 8 = some false) :
    Calls Try.prog 17 #[.int .i64 a0, .int .i64 a1, .int .i64 a2, .agg #[.bool o, .bool b, .bool l]] w fun e w' => e = .returned (.tuple #[.int .i64 0, .bool false]) ∧ Below w.heap.size w w' := by
  go_enter Try.func17, Try.ntmps17
  go_wp2_with (first
    | (go_at_call 27; refine (impl_areCounts.calls a0 a1 a2 8 false _ h).mono ?_; rintro e w1 ⟨rfl, m1, rfl⟩; have hb1 := pw_below_drewN (below_alloc (Below.refl w.heap.size w) (.cells #[.bool o, .bool b, .bool l] 31 (0, 0))) m1))
  go_ret2
  exact ⟨rfl, hb1⟩
set_option maxHeartbeats 4000000 in
set_option maxRecDepth 1000000 in
theorem impl_CountStuck.walk (o b l : Bool) (t g f n : Nat) (w : World) (h : impl_areCounts.f t g f 8 = some true) (h12 : t + g + f ≤ 12) (hdl : (linesAt (t + g + f) t g f []).length ≤ 1000000) (hn : cntO (stkC o b l) (linesAt (t + g + f) t g f []) = some n) :
    Calls Try.prog 17 #[.int .i64 (t : Int), .int .i64 (g : Int), .int .i64 (f : Int), .agg #[.bool o, .bool b, .bool l]] w fun e w' => e = .returned (.tuple #[.int .i64 (n : Int), .bool true]) ∧ Below w.heap.size w w' := by
  obtain ⟨hall, hnn⟩ := cntO_all hn
  have hmf : ∀ (fn : Fn) (first cap : Array Value) (w : World), (Instr.makeFunc fn first cap).run Try.prog w = .ok (.func fn first cap) w := fun _ _ _ _ => rfl
  have HA := Aside0.mk (fun (rb cb m : Nat) (hm : m ≤ cb) (W : World) (hI : Cn cb rb (.cells #[.bool o, .bool b, .bool l] 31 (0, 0)) (stkC o b l) [] W) => impl_allLines.walk (ge := 41) (lb := #[.pointer (some ⟨rb, 0, none⟩), .pointer (some ⟨cb, 0, none⟩)]) (I := Cn cb rb (.cells #[.bool o, .bool b, .bool l] 31 (0, 0)) (stkC o b l)) (Kp := Kc m) (P := fun s => ∃ q, stkC o b l s = some q)
    ⟨enters_of Try.func41 (by kernel_rfl) rfl, fun _ _ _ hI hb => hI.below hb, fun _ _ hb => Kc.below hb, fun _ _ _ h1 h2 => h1.trans h2, fun _ _ hk => hk.kt, fun done s W hd hI hP => st1_walk o b l rb cb m hm done s W hd hI hP⟩ t g f [] W h12 (by simpa using hdl) hall hI)
  have HN := Lib.hid hnn
  clear hall hn hnn hdl
  go_enter Try.func17, Try.ntmps17
  go_wp2_with (first
    | (go_at_call 27; refine (impl_areCounts.calls t g f 8 true _ h).mono ?_; clear h; rintro e w1 ⟨rfl, m1, rfl⟩; have hb1 := pw_below_drewN (below_alloc (Below.refl w.heap.size w) (.cells #[.bool o, .bool b, .bool l] 31 (0, 0))) m1; have hf1 := blk_below (blk_new w (.cells #[.bool o, .bool b, .bool l] 31 (0, 0))) (pw_below_drewN (Below.refl (w.alloc (.cells #[.bool o, .bool b, .bool l] 31 (0, 0))).heap.size _) m1); have hz1 : ((w.alloc (.cells #[.bool o, .bool b, .bool l] 31 (0, 0))).drewN m1).heap.size = w.heap.size + 1 := (by simp); generalize (w.alloc (.cells #[.bool o, .bool b, .bool l] 31 (0, 0))).drewN m1 = w1 at *; have hcb : (w1.alloc (.cells #[.int .i64 0] 3)).heap[w.heap.size + 1]? = some (.cells #[.int .i64 0] 3 (0, 0)) := (by have := blk_new w1 (.cells #[.int .i64 0] 3 (0, 0)); rwa [hz1] at this); have hfb := blk_alloc hf1 (.cells #[.int .i64 0] 3 (0, 0)); have hb2 := below_step hb1 (below_alloc (Below.refl w1.heap.size w1) (.cells #[.int .i64 0] 3 (0, 0))))
    | (go_at_call 40; refine (HA.out w.heap.size (w.heap.size + 1) w.heap.size (Nat.le_succ _) _ ⟨hcb, hfb, Nat.ne_of_lt (Nat.lt_succ_self _)⟩).mono ?_; rintro e w2 ⟨rfl, hI2, hk2⟩; have hc2 : w2.cell? ⟨w.heap.size + 1, 0, none⟩ = some (.int .i64 (n : Int)) := (by rw [HN.out]; exact (blk_cell hI2.n 0).trans rfl)))
  go_ret2
  exact ⟨rfl, hb2.trans (hk2.bl hb2.size)⟩
end
/-- how many lines are stuck -/
def impl_CountStuck.f (a0 a1 a2 : Int) (a3_0 a3_1 a3_2 : Bool) : Option (Int × Bool) := (impl_areCounts.f a0 a1 a2 8).bind fun r => if r = true then (if 0 ≤ a0 ∧ 0 ≤ a1 ∧ 0 ≤ a2 ∧ a0 + a1 + a2 ≤ 12 then (if (linesAt (a0.toNat + a1.toNat + a2.toNat) a0.toNat a1.toNat a2.toNat []).length ≤ 1000000 then ((cntO (stkC a3_0 a3_1 a3_2) (linesAt (a0.toNat + a1.toNat + a2.toNat) a0.toNat a1.toNat a2.toNat [])).bind fun n => some ((n : Int), true)) else none) else none) else some (0, false)
theorem impl_CountStuck.calls (a0 a1 a2 : Int) (a3_0 a3_1 a3_2 : Bool) (r1 : Int) (r2 : Bool) (w : World) (h : impl_CountStuck.f a0 a1 a2 a3_0 a3_1 a3_2 = some (r1, r2)) :
    Calls Try.prog 17 #[.int .i64 a0, .int .i64 a1, .int .i64 a2, .agg #[.bool a3_0, .bool a3_1, .bool a3_2]] w fun e w' => e = .returned (.tuple #[.int .i64 r1, .bool r2]) ∧ Below w.heap.size w w' := by
  unfold impl_CountStuck.f at h
  obtain ⟨r, hr, h⟩ := Option.bind_eq_some_iff.mp h
  cases r with
  | false =>
    rw [if_neg (by decide)] at h
    cases h
    exact impl_CountStuck.no1 _ _ _ a0 a1 a2 w hr
  | true =>
    rw [if_pos rfl] at h
    split at h
    case isFalse => cases h
    rename_i hh
    obtain ⟨t, rfl⟩ : ∃ t : Nat, a0 = (t : Int) := ⟨a0.toNat, (Int.toNat_of_nonneg hh.1).symm⟩
    obtain ⟨g, rfl⟩ : ∃ g : Nat, a1 = (g : Int) := ⟨a1.toNat, (Int.toNat_of_nonneg hh.2.1).symm⟩
    obtain ⟨f, rfl⟩ : ∃ f : Nat, a2 = (f : Int) := ⟨a2.toNat, (Int.toNat_of_nonneg hh.2.2.1).symm⟩
    rw [Int.toNat_natCast, Int.toNat_natCast, Int.toNat_natCast] at h
    split at h
    case isFalse => cases h
    rename_i hl
    obtain ⟨n, hn, h⟩ := Option.bind_eq_some_iff.mp h
    cases h
    exact impl_CountStuck.walk _ _ _ t g f n w hr (by omega) hl hn


/-! ### laws_FnExactCountStuck: function 6 -/
def laws_FnExactCountStuck.f (k : Nat) (a0 : Int) (a1 : Int) (a2 : Int) (a3_0 : Bool) (a3_1 : Bool) (a3_2 : Bool) : Option (Bool) := (laws_toRule.f a3_0 a3_1 a3_2).bind fun bt167 => ((spec_CountStuck.f k a0 a1 a2 bt167.1 bt167.2.1 bt167.2.2).bind fun bt170 => ((laws_toRule.f a3_0 a3_1 a3_2).bind fun bt172 => ((impl_CountStuck.f a0 a1 a2 bt172.1 bt172.2.1 bt172.2.2).bind fun bt175 => (if bt175.1 = bt170.1 then (if (bt175.2 != bt170.2) = true then (some false) else (some true)) else (some false)))))
theorem laws_FnExactCountStuck.mono : ∀ a0 a1 a2 a3 a4 a5 k, LeO (laws_FnExactCountStuck.f k a0 a1 a2 a3 a4 a5) (laws_FnExactCountStuck.f (k + 1) a0 a1 a2 a3 a4 a5) := by
  intro a0 a1 a2 a3 a4 a5 k
  unfold laws_FnExactCountStuck.f
  repeat' first
      | (with_reducible exact spec_CountStuck.mono _ _ _ _ _ _ _)
      | (with_reducible exact LeO.refl _)
      | (with_reducible exact LeO.none _)
      | (with_reducible refine LeO.ite ?_ ?_)
      | (with_reducible refine LeO.bind ?_ (fun _ => ?_))
      | exact spec_CountStuck.mono _ _ _ _ _ _ _
      | exact LeO.none _
      | refine LeO.ite ?_ ?_
      | refine LeO.bind ?_ (fun _ => ?_)
set_option maxHeartbeats 8000000 in
set_option maxRecDepth 100000 in
theorem laws_FnExactCountStuck.calls (k : Nat) (a0 : Int) (a1 : Int) (a2 : Int) (a3_0 : Bool) (a3_1 : Bool) (a3_2 : Bool) (r : Bool) (w : World) (h : laws_FnExactCountStuck.f k a0 a1 a2 a3_0 a3_1 a3_2 = some r) :
    Calls Try.prog 6 #[.int .i64 a0, .int .i64 a1, .int .i64 a2, .agg #[.bool a3_0, .bool a3_1, .bool a3_2]] w fun e w' => e = .returned (.bool r) ∧ Below w.heap.size w w' := by
  have hu29 := Try.underlying29
  have HB := Aside0.mk (Below.refl w.heap.size w)
  have H : ((laws_toRule.f a3_0 a3_1 a3_2).bind fun bt167 => ((spec_CountStuck.f k a0 a1 a2 bt167.1 bt167.2.1 bt167.2.2).bind fun bt170 => ((laws_toRule.f a3_0 a3_1 a3_2).bind fun bt172 => ((impl_CountStuck.f a0 a1 a2 bt172.1 bt172.2.1 bt172.2.2).bind fun bt175 => (if bt175.1 = bt170.1 then (if (bt175.2 != bt170.2) = true then (some false) else (some true)) else (some false)))))) = some r := h
  clear h
  replace H := Option.bind_eq_some_iff.mp H
  obtain ⟨⟨t167, t168, t169⟩, A50, H⟩ := H
  replace H : ((spec_CountStuck.f k a0 a1 a2 t167 t168 t169).bind fun bt170 => ((laws_toRule.f a3_0 a3_1 a3_2).bind fun bt172 => ((impl_CountStuck.f a0 a1 a2 bt172.1 bt172.2.1 bt172.2.2).bind fun bt175 => (if bt175.1 = bt170.1 then (if (bt175.2 != bt170.2) = true then (some false) else (some true)) else (some false))))) = some r := H
  have A5 := Aside0.mk A50
  clear A50
  replace H := Option.bind_eq_some_iff.mp H
  obtain ⟨⟨t170, t171⟩, A60, H⟩ := H
  replace H : ((laws_toRule.f a3_0 a3_1 a3_2).bind fun bt172 => ((impl_CountStuck.f a0 a1 a2 bt172.1 bt172.2.1 bt172.2.2).bind fun bt175 => (if bt175.1 = t170 then (if (bt175.2 != t171) = true then (some false) else (some true)) else (some false)))) = some r := H
  have A6 := Aside0.mk A60
  clear A60
  replace H := Option.bind_eq_some_iff.mp H
  obtain ⟨⟨t172, t173, t174⟩, A70, H⟩ := H
  replace H : ((impl_CountStuck.f a0 a1 a2 t172 t173 t174).bind fun bt175 => (if bt175.1 = t170 then (if (bt175.2 != t171) = true then (some false) else (some true)) else (some false))) = some r := H
  have A7 := Aside0.mk A70
  clear A70
  replace H := Option.bind_eq_some_iff.mp H
  obtain ⟨⟨t175, t176⟩, A80, H⟩ := H
  replace H : (if t175 = t170 then (if (t176 != t171) = true then (some false) else (some true)) else (some false)) = some r := H
  have A8 := Aside0.mk A80
  clear A80
  by_cases c9 : t175 = t170
  · rw [if_pos c9] at H
    have c9b0 : (t175 == t170) = true := beq_iff_eq.mpr c9
    have c9b1 : (t175 != t170) = false := bne_eq_false_iff_eq.mpr c9
    clear c9
    by_cases c10 : (t176 != t171) = true
    · rw [if_pos c10] at H
      have c10b0 : (t176 != t171) = true := c10
      (try (have c10b1 : decide (t176 = t171) = false := by simpa using c10))
      (try (have c10b2 : (t176 == t171) = false := by simpa using c10))
      (try (have c10b3 : ¬ (t176 = t171) := by simpa using c10))
      clear c10
      obtain rfl := Option.some.inj H
      go_enter Try.func6, Try.ntmps6
      go_wp2_with (first | ((with_reducible refine gate_dst (N := 7) rfl ?_); refine box_event ?hg (N := 7) ?hd (cs := #[.bool a3_0, .bool a3_1, .bool a3_2]) (t := 29) ?hr ?_; (case hd => rfl); (case hg => rfl); (case hr => first | (go_simp; done) | (go_simp; rfl)); intro gb166 hg w11 hbox hb; have n0_ := Aside0.mk (below_step (by repeat (first | (with_reducible first | exact HB.out | apply below_alloc | apply pw_below_drewN | apply below_drew1) | exact HB.out)) hb); have n1_ := Aside0.mk (hbox); have n2_ := Aside0.mk ((by rw [hg]; exact (below_size (by repeat (first | (with_reducible first | exact HB.out | apply below_alloc | apply pw_below_drewN | apply below_drew1) | exact HB.out))) : w.heap.size ≤ gb166)); have n3_ := Aside0.mk ((by rw [hg]; exact (below_size (by repeat (first | (with_reducible first | exact HB.out | apply below_alloc | apply pw_below_drewN | apply below_drew1) | exact HB.out))) : w.heap.size ≤ gb166)); clear HB; have HB := n0_; have BK166 := n1_; have GW166 := n2_; have GE166 := n3_; clear n0_ n1_ n2_ n3_; clear hb hbox hg; have hcz12_0 : w11.cell? ⟨gb166, 0, none⟩ = some (.bool a3_0) := (blk_cell BK166.out 0).trans rfl; have hcz12_1 : w11.cell? ⟨gb166, 1, none⟩ = some (.bool a3_1) := (blk_cell BK166.out 1).trans rfl; have hcz12_2 : w11.cell? ⟨gb166, 2, none⟩ = some (.bool a3_2) := (blk_cell BK166.out 2).trans rfl; have hfz12_0 := blk_frozen BK166.out 0; have hfz12_1 := blk_frozen BK166.out 1; have hfz12_2 := blk_frozen BK166.out 2) | ((with_reducible refine gate_callee (f := 16) rfl ?_); refine goesL_ (some 18) rfl rfl Try.func16 (by kernel_rfl) rfl #[.agg #[.bool a3_0, .bool a3_1, .bool a3_2]] rfl (by (try simp only [List.map_toArray, List.map_cons, List.map_nil]); first | done | rfl | (simp only [List.length_drop, List.length_take]; rfl)) ?_; (with_reducible refine (laws_toRule.calls a3_0 a3_1 a3_2 t167 t168 t169 _ A5.out).mono ?_); rintro e w13 ⟨rfl, hb⟩; refine ⟨_, rfl, ?_⟩; have n0_ := Aside0.mk (blk_below (g := gb166) (o := .cells #[.bool a3_0, .bool a3_1, .bool a3_2] 29 (0, 0)) (by (with_reducible repeat (first | refine blk_drewN ?_ _ | refine blk_drew ?_ | refine blk_alloc ?_ _)); exact BK166.out) hb); have n1_ := Aside0.mk (below_step (by repeat (first | (with_reducible first | exact HB.out | apply below_alloc | apply pw_below_drewN | apply below_drew1 | refine below_set ?_ GE166.out) | exact HB.out)) hb); clear BK166; clear HB; have BK166 := n0_; have HB := n1_; clear n0_ n1_; (try clear hb); (try clear hb2); (try clear hk); (try clear hi)) | ((with_reducible refine gate_callee (f := 15) rfl ?_); refine goesL_ (some 19) rfl rfl Try.func15 (by kernel_rfl) rfl #[.int .i64 a0, .int .i64 a1, .int .i64 a2, .agg #[.bool t167, .bool t168, .bool t169]] rfl (by (try simp only [List.map_toArray, List.map_cons, List.map_nil]); first | done | rfl | (simp only [List.length_drop, List.length_take]; rfl)) ?_; (with_reducible refine (spec_CountStuck.calls k a0 a1 a2 t167 t168 t169 t170 t171 _ A6.out).mono ?_); rintro e w14 ⟨rfl, hb⟩; refine ⟨_, rfl, ?_⟩; have n0_ := Aside0.mk (blk_below (g := gb166) (o := .cells #[.bool a3_0, .bool a3_1, .bool a3_2] 29 (0, 0)) (by (with_reducible repeat (first | refine blk_drewN ?_ _ | refine blk_drew ?_ | refine blk_alloc ?_ _)); exact BK166.out) hb); have n1_ := Aside0.mk (below_step (by repeat (first | (with_reducible first | exact HB.out | apply below_alloc | apply pw_below_drewN | apply below_drew1 | refine below_set ?_ GE166.out) | exact HB.out)) hb); clear BK166; clear HB; have BK166 := n0_; have HB := n1_; clear n0_ n1_; (try clear hb); (try clear hb2); (try clear hk); (try clear hi); have hcz15_0 : w14.cell? ⟨gb166, 0, none⟩ = some (.bool a3_0) := (blk_cell BK166.out 0).trans rfl; have hcz15_1 : w14.cell? ⟨gb166, 1, none⟩ = some (.bool a3_1) := (blk_cell BK166.out 1).trans rfl; have hcz15_2 : w14.cell? ⟨gb166, 2, none⟩ = some (.bool a3_2) := (blk_cell BK166.out 2).trans rfl; have hfz15_0 := blk_frozen BK166.out 0; have hfz15_1 := blk_frozen BK166.out 1; have hfz15_2 := blk_frozen BK166.out 2) | ((with_reducible refine gate_callee (f := 16) rfl ?_); refine goesL_ (some 27) rfl rfl Try.func16 (by kernel_rfl) rfl #[.agg #[.bool a3_0, .bool a3_1, .bool a3_2]] rfl (by (try simp only [List.map_toArray, List.map_cons, List.map_nil]); first | done | rfl | (simp only [List.length_drop, List.length_take]; rfl)) ?_; (with_reducible refine (laws_toRule.calls a3_0 a3_1 a3_2 t172 t173 t174 _ A7.out).mono ?_); rintro e w16 ⟨rfl, hb⟩; refine ⟨_, rfl, ?_⟩; have n0_ := Aside0.mk (blk_below (g := gb166) (o := .cells #[.bool a3_0, .bool a3_1, .bool a3_2] 29 (0, 0)) (by (with_reducible repeat (first | refine blk_drewN ?_ _ | refine blk_drew ?_ | refine blk_alloc ?_ _)); exact BK166.out) hb); have n1_ := Aside0.mk (below_step (by repeat (first | (with_reducible first | exact HB.out | apply below_alloc | apply pw_below_drewN | apply below_drew1 | refine below_set ?_ GE166.out) | exact HB.out)) hb); clear BK166; clear HB; have BK166 := n0_; have HB := n1_; clear n0_ n1_; (try clear hb); (try clear hb2); (try clear hk); (try clear hi)) | ((with_reducible refine gate_callee (f := 17) rfl ?_); refine goesL_ (some 28) rfl rfl Try.func17 (by kernel_rfl) rfl #[.int .i64 a0, .int .i64 a1, .int .i64 a2, .agg #[.bool t172, .bool t173, .bool t174]] rfl (by (try simp only [List.map_toArray, List.map_cons, List.map_nil]); first | done | rfl | (simp only [List.length_drop, List.length_take]; rfl)) ?_; (with_reducible refine (impl_CountStuck.calls a0 a1 a2 t172 t173 t174 t175 t176 _ A8.out).mono ?_); rintro e w17 ⟨rfl, hb⟩; refine ⟨_, rfl, ?_⟩; have n0_ := Aside0.mk (blk_below (g := gb166) (o := .cells #[.bool a3_0, .bool a3_1, .bool a3_2] 29 (0, 0)) (by (with_reducible repeat (first | refine blk_drewN ?_ _ | refine blk_drew ?_ | refine blk_alloc ?_ _)); exact BK166.out) hb); have n1_ := Aside0.mk (below_step (by repeat (first | (with_reducible first | exact HB.out | apply below_alloc | apply pw_below_drewN | apply below_drew1 | refine below_set ?_ GE166.out) | exact HB.out)) hb); clear BK166; clear HB; have BK166 := n0_; have HB := n1_; clear n0_ n1_; (try clear hb); (try clear hb2); (try clear hk); (try clear hi)))
      go_ret
      exact ⟨by first | rfl | (simp [errW_none, errW_some] <;> rfl) | (simp [*, errW_none, errW_some] <;> rfl), by repeat (first | (with_reducible first | exact HB.out | apply below_alloc | apply pw_below_drewN | apply below_drew1 | refine below_set ?_ GE166.out) | exact HB.out)⟩
    · rw [if_neg c10] at H
      have c10b0 : (t176 != t171) = false := by simpa using c10
      (try (have c10b1 : decide (t176 = t171) = true := by simpa using c10))
      (try (have c10b2 : (t176 == t171) = true := by simpa using c10))
      clear c10
      obtain rfl := Option.some.inj H
      go_enter Try.func6, Try.ntmps6
      go_wp2_with (first | ((with_reducible refine gate_dst (N := 7) rfl ?_); refine box_event ?hg (N := 7) ?hd (cs := #[.bool a3_0, .bool a3_1, .bool a3_2]) (t := 29) ?hr ?_; (case hd => rfl); (case hg => rfl); (case hr => first | (go_simp; done) | (go_simp; rfl)); intro gb166 hg w18 hbox hb; have n0_ := Aside0.mk (below_step (by repeat (first | (with_reducible first | exact HB.out | apply below_alloc | apply pw_below_drewN | apply below_drew1) | exact HB.out)) hb); have n1_ := Aside0.mk (hbox); have n2_ := Aside0.mk ((by rw [hg]; exact (below_size (by repeat (first | (with_reducible first | exact HB.out | apply below_alloc | apply pw_below_drewN | apply below_drew1) | exact HB.out))) : w.heap.size ≤ gb166)); have n3_ := Aside0.mk ((by rw [hg]; exact (below_size (by repeat (first | (with_reducible first | exact HB.out | apply below_alloc | apply pw_below_drewN | apply below_drew1) | exact HB.out))) : w.heap.size ≤ gb166)); clear HB; have HB := n0_; have BK166 := n1_; have GW166 := n2_; have GE166 := n3_; clear n0_ n1_ n2_ n3_; clear hb hbox hg; have hcz19_0 : w18.cell? ⟨gb166, 0, none⟩ = some (.bool a3_0) := (blk_cell BK166.out 0).trans rfl; have hcz19_1 : w18.cell? ⟨gb166, 1, none⟩ = some (.bool a3_1) := (blk_cell BK166.out 1).trans rfl; have hcz19_2 : w18.cell? ⟨gb166, 2, none⟩ = some (.bool a3_2) := (blk_cell BK166.out 2).trans rfl; have hfz19_0 := blk_frozen BK166.out 0; have hfz19_1 := blk_frozen BK166.out 1; have hfz19_2 := blk_frozen BK166.out 2) | ((with_reducible refine gate_callee (f := 16) rfl ?_); refine goesL_ (some 18) rfl rfl Try.func16 (by kernel_rfl) rfl #[.agg #[.bool a3_0, .bool a3_1, .bool a3_2]] rfl (by (try simp only [List.map_toArray, List.map_cons, List.map_nil]); first | done | rfl | (simp only [List.length_drop, List.length_take]; rfl)) ?_; (with_reducible refine (laws_toRule.calls a3_0 a3_1 a3_2 t167 t168 t169 _ A5.out).mono ?_); rintro e w20 ⟨rfl, hb⟩; refine ⟨_, rfl, ?_⟩; have n0_ := Aside0.mk (blk_below (g := gb166) (o := .cells #[.bool a3_0, .bool a3_1, .bool a3_2] 29 (0, 0)) (by (with_reducible repeat (first | refine blk_drewN ?_ _ | refine blk_drew ?_ | refine blk_alloc ?_ _)); exact BK166.out) hb); have n1_ := Aside0.mk (below_step (by repeat (first | (with_reducible first | exact HB.out | apply below_alloc | apply pw_below_drewN | apply below_drew1 | refine below_set ?_ GE166.out) | exact HB.out)) hb); clear BK166; clear HB; have BK166 := n0_; have HB := n1_; clear n0_ n1_; (try clear hb); (try clear hb2); (try clear hk); (try clear hi)) | ((with_reducible refine gate_callee (f := 15) rfl ?_); refine goesL_ (some 19) rfl rfl Try.func15 (by kernel_rfl) rfl #[.int .i64 a0, .int .i64 a1, .int .i64 a2, .agg #[.bool t167, .bool t168, .bool t169]] rfl (by (try simp only [List.map_toArray, List.map_cons, List.map_nil]); first | done | rfl | (simp only [List.length_drop, List.length_take]; rfl)) ?_; (with_reducible refine (spec_CountStuck.calls k a0 a1 a2 t167 t168 t169 t170 t171 _ A6.out).mono ?_); rintro e w21 ⟨rfl, hb⟩; refine ⟨_, rfl, ?_⟩; have n0_ := Aside0.mk (blk_below (g := gb166) (o := .cells #[.bool a3_0, .bool a3_1, .bool a3_2] 29 (0, 0)) (by (with_reducible repeat (first | refine blk_drewN ?_ _ | refine blk_drew ?_ | refine blk_alloc ?_ _)); exact BK166.out) hb); have n1_ := Aside0.mk (below_step (by repeat (first | (with_reducible first | exact HB.out | apply below_alloc | apply pw_below_drewN | apply below_drew1 | refine below_set ?_ GE166.out) | exact HB.out)) hb); clear BK166; clear HB; have BK166 := n0_; have HB := n1_; clear n0_ n1_; (try clear hb); (try clear hb2); (try clear hk); (try clear hi); have hcz22_0 : w21.cell? ⟨gb166, 0, none⟩ = some (.bool a3_0) := (blk_cell BK166.out 0).trans rfl; have hcz22_1 : w21.cell? ⟨gb166, 1, none⟩ = some (.bool a3_1) := (blk_cell BK166.out 1).trans rfl; have hcz22_2 : w21.cell? ⟨gb166, 2, none⟩ = some (.bool a3_2) := (blk_cell BK166.out 2).trans rfl; have hfz22_0 := blk_frozen BK166.out 0; have hfz22_1 := blk_frozen BK166.out 1; have hfz22_2 := blk_frozen BK166.out 2) | ((with_reducible refine gate_callee (f := 16) rfl ?_); refine goesL_ (some 27) rfl rfl Try.func16 (by kernel_rfl) rfl #[.agg #[.bool a3_0, .bool a3_1, .bool a3_2]] rfl (by (try simp only [List.map_toArray, List.map_cons, List.map_nil]); first | done | rfl | (simp only [List.length_drop, List.length_take]; rfl)) ?_; (with_reducible refine (laws_toRule.calls a3_0 a3_1 a3_2 t172 t173 t174 _ A7.out).mono ?_); rintro e w23 ⟨rfl, hb⟩; refine ⟨_, rfl, ?_⟩; have n0_ := Aside0.mk (blk_below (g := gb166) (o := .cells #[.bool a3_0, .bool a3_1, .bool a3_2] 29 (0, 0)) (by (with_reducible repeat (first | refine blk_drewN ?_ _ | refine blk_drew ?_ | refine blk_alloc ?_ _)); exact BK166.out) hb); have n1_ := Aside0.mk (below_step (by repeat (first | (with_reducible first | exact HB.out | apply below_alloc | apply pw_below_drewN | apply below_drew1 | refine below_set ?_ GE166.out) | exact HB.out)) hb); clear BK166; clear HB; have BK166 := n0_; have HB := n1_; clear n0_ n1_; (try clear hb); (try clear hb2); (try clear hk); (try clear hi)) | ((with_reducible refine gate_callee (f := 17) rfl ?_); refine goesL_ (some 28) rfl rfl Try.func17 (by kernel_rfl) rfl #[.int .i64 a0, .int .i64 a1, .int .i64 a2, .agg #[.bool t172, .bool t173, .bool t174]] rfl (by (try simp only [List.map_toArray, List.map_cons, List.map_nil]); first | done | rfl | (simp only [List.length_drop, List.length_take]; rfl)) ?_; (with_reducible refine (impl_CountStuck.calls a0 a1 a2 t172 t173 t174 t175 t176 _ A8.out).mono ?_); rintro e w24 ⟨rfl, hb⟩; refine ⟨_, rfl, ?_⟩; have n0_ := Aside0.mk (blk_below (g := gb166) (o := .cells #[.bool a3_0, .bool a3_1, .bool a3_2] 29 (0, 0)) (by (with_reducible repeat (first | refine blk_drewN ?_ _ | refine blk_drew ?_ | refine blk_alloc ?_ _)); exact BK166.out) hb); have n1_ := Aside0.mk (below_step (by repeat (first | (with_reducible first | exact HB.out | apply below_alloc | apply pw_below_drewN | apply below_drew1 | refine below_set ?_ GE166.out) | exact HB.out)) hb); clear BK166; clear HB; have BK166 := n0_; have HB := n1_; clear n0_ n1_; (try clear hb); (try clear hb2); (try clear hk); (try clear hi)))
      go_ret
      exact ⟨by first | rfl | (simp [errW_none, errW_some] <;> rfl) | (simp [*, errW_none, errW_some] <;> rfl), by repeat (first | (with_reducible first | exact HB.out | apply below_alloc | apply pw_below_drewN | apply below_drew1 | refine below_set ?_ GE166.out) | exact HB.out)⟩
  · rw [if_neg c9] at H
    have c9b0 : (t175 == t170) = false := beq_eq_false_iff_ne.mpr c9
    have c9b1 : (t175 != t170) = true := bne_iff_ne.mpr c9
    obtain rfl := Option.some.inj H
    go_enter Try.func6, Try.ntmps6
    go_wp2_with (first | ((with_reducible refine gate_dst (N := 7) rfl ?_); refine box_event ?hg (N := 7) ?hd (cs := #[.bool a3_0, .bool a3_1, .bool a3_2]) (t := 29) ?hr ?_; (case hd => rfl); (case hg => rfl); (case hr => first | (go_simp; done) | (go_simp; rfl)); intro gb166 hg w25 hbox hb; have n0_ := Aside0.mk (below_step (by repeat (first | (with_reducible first | exact HB.out | apply below_alloc | apply pw_below_drewN | apply below_drew1) | exact HB.out)) hb); have n1_ := Aside0.mk (hbox); have n2_ := Aside0.mk ((by rw [hg]; exact (below_size (by repeat (first | (with_reducible first | exact HB.out | apply below_alloc | apply pw_below_drewN | apply below_drew1) | exact HB.out))) : w.heap.size ≤ gb166)); have n3_ := Aside0.mk ((by rw [hg]; exact (below_size (by repeat (first | (with_reducible first | exact HB.out | apply below_alloc | apply pw_below_drewN | apply below_drew1) | exact HB.out))) : w.heap.size ≤ gb166)); clear HB; have HB := n0_; have BK166 := n1_; have GW166 := n2_; have GE166 := n3_; clear n0_ n1_ n2_ n3_; clear hb hbox hg; have hcz26_0 : w25.cell? ⟨gb166, 0, none⟩ = some (.bool a3_0) := (blk_cell BK166.out 0).trans rfl; have hcz26_1 : w25.cell? ⟨gb166, 1, none⟩ = some (.bool a3_1) := (blk_cell BK166.out 1).trans rfl; have hcz26_2 : w25.cell? ⟨gb166, 2, none⟩ = some (.bool a3_2) := (blk_cell BK166.out 2).trans rfl; have hfz26_0 := blk_frozen BK166.out 0; have hfz26_1 := blk_frozen BK166.out 1; have hfz26_2 := blk_frozen BK166.out 2) | ((with_reducible refine gate_callee (f := 16) rfl ?_); refine goesL_ (some 18) rfl rfl Try.func16 (by kernel_rfl) rfl #[.agg #[.bool a3_0, .bool a3_1, .bool a3_2]] rfl (by (try simp only [List.map_toArray, List.map_cons, List.map_nil]); first | done | rfl | (simp only [List.length_drop, List.length_take]; rfl)) ?_; (with_reducible refine (laws_toRule.calls a3_0 a3_1 a3_2 t167 t168 t169 _ A5.out).mono ?_); rintro e w27 ⟨rfl, hb⟩; refine ⟨_, rfl, ?_⟩; have n0_ := Aside0.mk (blk_below (g := gb166) (o := .cells #[.bool a3_0, .bool a3_1, .bool a3_2] 29 (0, 0)) (by (with_reducible repeat (first | refine blk_drewN ?_ _ | refine blk_drew ?_ | refine blk_alloc ?_ _)); exact BK166.out) hb); have n1_ := Aside0.mk (below_step (by repeat (first | (with_reducible first | exact HB.out | apply below_alloc | apply pw_below_drewN | apply below_drew1 | refine below_set ?_ GE166.out) | exact HB.out)) hb); clear BK166; clear HB; have BK166 := n0_; have HB := n1_; clear n0_ n1_; (try clear hb); (try clear hb2); (try clear hk); (try clear hi)) | ((with_reducible refine gate_callee (f := 15) rfl ?_); refine goesL_ (some 19) rfl rfl Try.func15 (by kernel_rfl) rfl #[.int .i64 a0, .int .i64 a1, .int .i64 a2, .agg #[.bool t167, .bool t168, .bool t169]] rfl (by (try simp only [List.map_toArray, List.map_cons, List.map_nil]); first | done | rfl | (simp only [List.length_drop, List.length_take]; rfl)) ?_; (with_reducible refine (spec_CountStuck.calls k a0 a1 a2 t167 t168 t169 t170 t171 _ A6.out).mono ?_); rintro e w28 ⟨rfl, hb⟩; refine ⟨_, rfl, ?_⟩; have n0_ := Aside0.mk (blk_below (g := gb166) (o := .cells #[.bool a3_0, .bool a3_1, .bool a3_2] 29 (0, 0)) (by (with_reducible repeat (first | refine blk_drewN ?_ _ | refine blk_drew ?_ | refine blk_alloc ?_ _)); exact BK166.out) hb); have n1_ := Aside0.mk (below_step (by repeat (first | (with_reducible first | exact HB.out | apply below_alloc | apply pw_below_drewN | apply below_drew1 | refine below_set ?_ GE166.out) | exact HB.out)) hb); clear BK166; clear HB; have BK166 := n0_; have HB := n1_; clear n0_ n1_; (try clear hb); (try clear hb2); (try clear hk); (try clear hi); have hcz29_0 : w28.cell? ⟨gb166, 0, none⟩ = some (.bool a3_0) := (blk_cell BK166.out 0).trans rfl; have hcz29_1 : w28.cell? ⟨gb166, 1, none⟩ = some (.bool a3_1) := (blk_cell BK166.out 1).trans rfl; have hcz29_2 : w28.cell? ⟨gb166, 2, none⟩ = some (.bool a3_2) := (blk_cell BK166.out 2).trans rfl; have hfz29_0 := blk_frozen BK166.out 0; have hfz29_1 := blk_frozen BK166.out 1; have hfz29_2 := blk_frozen BK166.out 2) | ((with_reducible refine gate_callee (f := 16) rfl ?_); refine goesL_ (some 27) rfl rfl Try.func16 (by kernel_rfl) rfl #[.agg #[.bool a3_0, .bool a3_1, .bool a3_2]] rfl (by (try simp only [List.map_toArray, List.map_cons, List.map_nil]); first | done | rfl | (simp only [List.length_drop, List.length_take]; rfl)) ?_; (with_reducible refine (laws_toRule.calls a3_0 a3_1 a3_2 t172 t173 t174 _ A7.out).mono ?_); rintro e w30 ⟨rfl, hb⟩; refine ⟨_, rfl, ?_⟩; have n0_ := Aside0.mk (blk_below (g := gb166) (o := .cells #[.bool a3_0, .bool a3_1, .bool a3_2] 29 (0, 0)) (by (with_reducible repeat (first | refine blk_drewN ?_ _ | refine blk_drew ?_ | refine blk_alloc ?_ _)); exact BK166.out) hb); have n1_ := Aside0.mk (below_step (by repeat (first | (with_reducible first | exact HB.out | apply below_alloc | apply pw_below_drewN | apply below_drew1 | refine below_set ?_ GE166.out) | exact HB.out)) hb); clear BK166; clear HB; have BK166 := n0_; have HB := n1_; clear n0_ n1_; (try clear hb); (try clear hb2); (try clear hk); (try clear hi)) | ((with_reducible refine gate_callee (f := 17) rfl ?_); refine goesL_ (some 28) rfl rfl Try.func17 (by kernel_rfl) rfl #[.int .i64 a0, .int .i64 a1, .int .i64 a2, .agg #[.bool t172, .bool t173, .bool t174]] rfl (by (try simp only [List.map_toArray, List.map_cons, List.map_nil]); first | done | rfl | (simp only [List.length_drop, List.length_take]; rfl)) ?_; (with_reducible refine (impl_CountStuck.calls a0 a1 a2 t172 t173 t174 t175 t176 _ A8.out).mono ?_); rintro e w31 ⟨rfl, hb⟩; refine ⟨_, rfl, ?_⟩; have n0_ := Aside0.mk (blk_below (g := gb166) (o := .cells #[.bool a3_0, .bool a3_1, .bool a3_2] 29 (0, 0)) (by (with_reducible repeat (first | refine blk_drewN ?_ _ | refine blk_drew ?_ | refine blk_alloc ?_ _)); exact BK166.out) hb); have n1_ := Aside0.mk (below_step (by repeat (first | (with_reducible first | exact HB.out | apply below_alloc | apply pw_below_drewN | apply below_drew1 | refine below_set ?_ GE166.out) | exact HB.out)) hb); clear BK166; clear HB; have BK166 := n0_; have HB := n1_; clear n0_ n1_; (try clear hb); (try clear hb2); (try clear hk); (try clear hi)))
    go_ret
    exact ⟨by first | rfl | (simp [errW_none, errW_some] <;> rfl) | (simp [*, errW_none, errW_some] <;> rfl), by repeat (first | (with_reducible first | exact HB.out | apply below_alloc | apply pw_below_drewN | apply below_drew1 | refine below_set ?_ GE166.out) | exact HB.out)⟩

end Go.Proofs.Ytpelhinjoambfaa.XD
