/- The Lean functions that the Go functions of this seat compute, each with the proof that the Go function computes it, for every input (laws: FnExactBothWays). Conditions: none beyond those that each theorem names. Written by a program of this session over the kit's printer. -/
import Derived.Test.YtjgijaocinpkhaaDoorT2XT0
import Derived.Test.YtjgijaocinpkhaaDoorT2XT1
import Derived.Test.YtjgijaocinpkhaaDoorT2XT2
import Derived.Test.YtjgijaocinpkhaaDoorT2XT8
import Derived.Test.YtjgijaocinpkhaaDoorT2XT9
namespace Go.Proofs.YtjgijaocinpkhaaDoor.XT
open Go.RowKit Go.Proofs.YtjgijaocinpkhaaDoorW.PrintWords Go.Proofs.YtjgijaocinpkhaaDoorW.PrintLast Go.Proofs.YtjgijaocinpkhaaDoorW.PrintMore
attribute [local go_sem] max2_int min2_int max_two min_two max_three min_three max_four min_four   -- for this text's walks alone
attribute [local go_sem] Lib.run_min_strs Go.Proofs.YtjgijaocinpkhaaDoorXW.run_min2_strs Go.Proofs.YtjgijaocinpkhaaDoorXW.run_int_string
set_option linter.unusedVariables false
set_option linter.unusedSimpArgs false

/-! ### impl_movesBy: function 69 -/
mutual
def impl_movesBy.l0 : Nat → ByteArray → List (S83) → Int → Int → Bool → Bool → Bool → Option ((List (S83)))
  | 0, _, _, _, _, _, _, _ => none
  | k + 1, x0, x5, x14, x15, x220000, x220001, x220002 => if x15 < x14 then ((some (([(-1), 1] : List Int) : List Int)).bind fun y223 => (impl_movesBy.l1 k x0 x5 x15 x14 x15 y223 (y223.length : Int) 0 x220000 x220001 x220002)) else (some x5)
def impl_movesBy.l1 : Nat → ByteArray → List (S83) → Int → Int → Int → List Int → Int → Int → Bool → Bool → Bool → Option ((List (S83)))
  | 0, _, _, _, _, _, _, _, _, _, _, _ => none
  | k + 1, x0, x5, x6, x14, x15, x18, x19, x20, x220000, x220001, x220002 => if x20 < x19 then (if 0 ≤ x20 then (if x20 < (x18.length : Int) then (if 0 ≤ x6 then (if x6 < (x0.size : Int) then ((impl_stepOf.f (bt x0 x6)).bind fun t227 => (if t227 = 0 then (impl_movesBy.j2 k x0 x5 x6 (rd x18 x20) x14 x15 x18 x19 x20 true x220000 x220001 x220002) else (if t227 = (rd x18 x20) then (impl_movesBy.j2 k x0 x5 x6 (rd x18 x20) x14 x15 x18 x19 x20 false x220000 x220001 x220002) else (impl_movesBy.j2 k x0 x5 x6 (rd x18 x20) x14 x15 x18 x19 x20 (!x220001) x220000 x220001 x220002)))) else (none)) else (none)) else (none)) else (none)) else (impl_movesBy.l0 k x0 x5 x14 (wrap64 (x15 + 1)) x220000 x220001 x220002)
def impl_movesBy.j2 : Nat → ByteArray → List (S83) → Int → Int → Int → Int → List Int → Int → Int → Bool → Bool → Bool → Bool → Option ((List (S83)))
  | 0, _, _, _, _, _, _, _, _, _, _, _, _, _ => none
  | k + 1, x0, x5, x6, x8, x14, x15, x18, x19, x20, x39, x220000, x220001, x220002 => if x39 = true then (impl_movesBy.l1 k x0 x5 x6 x14 x15 x18 x19 (wrap64 (x20 + 1)) x220000 x220001 x220002) else ((impl_goalBy.f k x0 x6 x8 x220000 x220001 x220002).bind fun bt228 => (if bt228.2 = true then (if x5.length < 8796093022208 then (impl_movesBy.l1 k x0 (x5 ++ [(⟨x6, bt228.1⟩ : S83)]) x6 x14 x15 x18 x19 (wrap64 (x20 + 1)) x220000 x220001 x220002) else (none)) else (impl_movesBy.l1 k x0 x5 x6 x14 x15 x18 x19 (wrap64 (x20 + 1)) x220000 x220001 x220002)))
end
def impl_movesBy.f (k : Nat) (a0 : ByteArray) (a1_0 : Bool) (a1_1 : Bool) (a1_2 : Bool) : Option ((List (S83))) := impl_movesBy.l0 k a0 (([] : List (S83))) (a0.size : Int) 0 a1_0 a1_1 a1_2
theorem impl_movesBy.mono_l : ∀ k, (∀ y0 y1 y2 y3 y4 y5 y6, LeO (impl_movesBy.l0 k y0 y1 y2 y3 y4 y5 y6) (impl_movesBy.l0 (k + 1) y0 y1 y2 y3 y4 y5 y6)) ∧ (∀ y0 y1 y2 y3 y4 y5 y6 y7 y8 y9 y10, LeO (impl_movesBy.l1 k y0 y1 y2 y3 y4 y5 y6 y7 y8 y9 y10) (impl_movesBy.l1 (k + 1) y0 y1 y2 y3 y4 y5 y6 y7 y8 y9 y10)) ∧ (∀ y0 y1 y2 y3 y4 y5 y6 y7 y8 y9 y10 y11 y12, LeO (impl_movesBy.j2 k y0 y1 y2 y3 y4 y5 y6 y7 y8 y9 y10 y11 y12) (impl_movesBy.j2 (k + 1) y0 y1 y2 y3 y4 y5 y6 y7 y8 y9 y10 y11 y12))
  | 0 => ⟨fun _ _ _ _ _ _ _ r h => by simp [impl_movesBy.l0] at h, fun _ _ _ _ _ _ _ _ _ _ _ r h => by simp [impl_movesBy.l1] at h, fun _ _ _ _ _ _ _ _ _ _ _ _ _ r h => by simp [impl_movesBy.j2] at h⟩
  | k + 1 => by
    obtain ⟨ih0, ih1, ih2⟩ := impl_movesBy.mono_l k
    refine ⟨?_, ?_, ?_⟩
    · intro y0 y1 y2 y3 y4 y5 y6
      unfold impl_movesBy.l0
      repeat' first
      | (with_reducible exact ih0 _ _ _ _ _ _ _)
      | (with_reducible exact ih1 _ _ _ _ _ _ _ _ _ _ _)
      | (with_reducible exact ih2 _ _ _ _ _ _ _ _ _ _ _ _ _)
      | (with_reducible exact impl_goalBy.mono _ _ _ _ _ _ _)
      | (with_reducible exact LeO.refl _)
      | (with_reducible exact LeO.none _)
      | (with_reducible refine LeO.ite ?_ ?_)
      | (with_reducible refine LeO.bind ?_ (fun _ => ?_))
      | exact ih0 _ _ _ _ _ _ _
      | exact ih1 _ _ _ _ _ _ _ _ _ _ _
      | exact ih2 _ _ _ _ _ _ _ _ _ _ _ _ _
      | exact impl_goalBy.mono _ _ _ _ _ _ _
      | exact LeO.none _
      | refine LeO.ite ?_ ?_
      | refine LeO.bind ?_ (fun _ => ?_)
    · intro y0 y1 y2 y3 y4 y5 y6 y7 y8 y9 y10
      unfold impl_movesBy.l1
      repeat' first
      | (with_reducible exact ih0 _ _ _ _ _ _ _)
      | (with_reducible exact ih1 _ _ _ _ _ _ _ _ _ _ _)
      | (with_reducible exact ih2 _ _ _ _ _ _ _ _ _ _ _ _ _)
      | (with_reducible exact impl_goalBy.mono _ _ _ _ _ _ _)
      | (with_reducible exact LeO.refl _)
      | (with_reducible exact LeO.none _)
      | (with_reducible refine LeO.ite ?_ ?_)
      | (with_reducible refine LeO.bind ?_ (fun _ => ?_))
      | exact ih0 _ _ _ _ _ _ _
      | exact ih1 _ _ _ _ _ _ _ _ _ _ _
      | exact ih2 _ _ _ _ _ _ _ _ _ _ _ _ _
      | exact impl_goalBy.mono _ _ _ _ _ _ _
      | exact LeO.none _
      | refine LeO.ite ?_ ?_
      | refine LeO.bind ?_ (fun _ => ?_)
    · intro y0 y1 y2 y3 y4 y5 y6 y7 y8 y9 y10 y11 y12
      unfold impl_movesBy.j2
      repeat' first
      | (with_reducible exact ih0 _ _ _ _ _ _ _)
      | (with_reducible exact ih1 _ _ _ _ _ _ _ _ _ _ _)
      | (with_reducible exact ih2 _ _ _ _ _ _ _ _ _ _ _ _ _)
      | (with_reducible exact impl_goalBy.mono _ _ _ _ _ _ _)
      | (with_reducible exact LeO.refl _)
      | (with_reducible exact LeO.none _)
      | (with_reducible refine LeO.ite ?_ ?_)
      | (with_reducible refine LeO.bind ?_ (fun _ => ?_))
      | exact ih0 _ _ _ _ _ _ _
      | exact ih1 _ _ _ _ _ _ _ _ _ _ _
      | exact ih2 _ _ _ _ _ _ _ _ _ _ _ _ _
      | exact impl_goalBy.mono _ _ _ _ _ _ _
      | exact LeO.none _
      | refine LeO.ite ?_ ?_
      | refine LeO.bind ?_ (fun _ => ?_)
theorem impl_movesBy.mono : ∀ a0 a1 a2 a3 k, LeO (impl_movesBy.f k a0 a1 a2 a3) (impl_movesBy.f (k + 1) a0 a1 a2 a3) := by
  intro a0 a1 a2 a3 k
  obtain ⟨ih0, ih1, ih2⟩ := impl_movesBy.mono_l k
  unfold impl_movesBy.f
  repeat' first
      | (with_reducible exact ih0 _ _ _ _ _ _ _)
      | (with_reducible exact ih1 _ _ _ _ _ _ _ _ _ _ _)
      | (with_reducible exact ih2 _ _ _ _ _ _ _ _ _ _ _ _ _)
      | (with_reducible exact impl_goalBy.mono _ _ _ _ _ _ _)
      | (with_reducible exact LeO.refl _)
      | (with_reducible exact LeO.none _)
      | (with_reducible refine LeO.ite ?_ ?_)
      | (with_reducible refine LeO.bind ?_ (fun _ => ?_))
      | exact ih0 _ _ _ _ _ _ _
      | exact ih1 _ _ _ _ _ _ _ _ _ _ _
      | exact ih2 _ _ _ _ _ _ _ _ _ _ _ _ _
      | exact impl_goalBy.mono _ _ _ _ _ _ _
      | exact LeO.none _
      | refine LeO.ite ?_ ?_
      | refine LeO.bind ?_ (fun _ => ?_)
set_option maxHeartbeats 8000000 in
set_option maxRecDepth 100000 in
theorem impl_movesBy.calls (k : Nat) (a0 : ByteArray) (a1_0 : Bool) (a1_1 : Bool) (a1_2 : Bool) (r : List (S83)) (w : World) (h : impl_movesBy.f k a0 a1_0 a1_1 a1_2 = some r) :
    Calls Tryd.prog 69 #[.string a0, .agg #[.bool a1_0, .bool a1_1, .bool a1_2]] w fun e w' => ∃ v0_ : Value, e = .returned (v0_) ∧ Kd.R k83 83 w' w.heap.size (fun _ => True) v0_ r ∧ Below w.heap.size w w' := by
  have hu32 := Tryd.underlying32
  have hu83 := Tryd.underlying83
  have HB := Aside0.mk (Below.refl w.heap.size w)
  have H : (impl_movesBy.l0 k a0 (([] : List (S83))) (a0.size : Int) 0 a1_0 a1_1 a1_2) = some r := h
  clear h
  obtain ⟨y220, hy220⟩ : ∃ y_ : List (S83), y_ = (([] : List (S83))) := ⟨_, rfl⟩
  replace H : (impl_movesBy.l0 k a0 y220 (a0.size : Int) 0 a1_0 a1_1 a1_2) = some r := by first | (rw [hy220]; with_reducible exact H) | (have H2_ := (Option.bind_some _ _).symm.trans H; rw [hy220]; with_reducible exact H2_) | (have H2_ := (Option.bind_some _ _).symm.trans H; with_reducible exact H2_) | with_reducible exact H | (rw [hy220]; exact H) | exact H
  have Ny220 := Aside0.mk hy220
  clear hy220
  have H' := Aside0.mk H
  clear H
  go_enter Tryd.func69, Tryd.ntmps69
  go_wp2_with (first | ((with_reducible refine gate_dst (N := 3) rfl ?_); refine box_event ?hg (N := 3) ?hd (cs := #[.bool a1_0, .bool a1_1, .bool a1_2]) (t := 32) ?hr ?_; (case hd => rfl); (case hg => rfl); (case hr => first | (go_simp; done) | (go_simp; rfl)); intro gb219 hg w3 hbox hb; have n0_ := Aside0.mk (below_step (by repeat (first | (with_reducible first | exact HB.out | apply below_alloc | apply pw_below_drewN | apply below_drew1) | exact HB.out)) hb); have n1_ := Aside0.mk (hbox); have n2_ := Aside0.mk ((by rw [hg]; exact (below_size (by repeat (first | (with_reducible first | exact HB.out | apply below_alloc | apply pw_below_drewN | apply below_drew1) | exact HB.out))) : w.heap.size ≤ gb219)); have n3_ := Aside0.mk ((by rw [hg]; exact (below_size (by repeat (first | (with_reducible first | exact HB.out | apply below_alloc | apply pw_below_drewN | apply below_drew1) | exact HB.out))) : w.heap.size ≤ gb219)); clear HB; have HB := n0_; have BK219 := n1_; have GW219 := n2_; have GE219 := n3_; clear n0_ n1_ n2_ n3_; clear hb hbox hg) | ((with_reducible refine gate_dst (N := 12) rfl ?_); refine Kd.R_lit k83 _ 83 ?hg (N := 12) ?hd (xs := ([] : List (S83))) (inner := []) (ok := fun _ => True) (okp := fun _ => True) ?hr ?hp (fun _ hk => hk) trivial (Below.refl _ _) (Nat.le_refl _) (by simp) ?_; (case hd => rfl); (case hg => rfl); (case hr => first | (go_simp; done) | (go_simp; rfl)); (case hp => exact (Reps.none _ _)); intro v221 w4 ho5 hb hg_ hnew_; clear hg_ hnew_; (first | rw [← Ny220.out] at ho5 | (simp only [Int.reduceToNat] at ho5; rw [← Ny220.out] at ho5)); have n0_ := Aside0.mk (Kd.R_lower ho5 (below_size (by repeat (first | (with_reducible first | exact HB.out | apply below_alloc | apply pw_below_drewN | apply below_drew1 | refine below_set ?_ GE219.out) | exact HB.out)))); have n1_ := Aside0.mk (blk_below (g := gb219) (o := .cells #[.bool a1_0, .bool a1_1, .bool a1_2] 32 (0, 0)) (by (with_reducible repeat (first | refine blk_drewN ?_ _ | refine blk_drew ?_ | refine blk_alloc ?_ _)); exact BK219.out) hb); have n2_ := Aside0.mk (below_step (by repeat (first | (with_reducible first | exact HB.out | apply below_alloc | apply pw_below_drewN | apply below_drew1 | refine below_set ?_ GE219.out) | exact HB.out)) hb); clear BK219; clear HB; have HO222 := n0_; have BK219 := n1_; have HB := n2_; clear n0_ n1_ n2_; clear hb ho5))
  go_loopg [5, 15] k (fun kq v5 v15 w' => ∃ (x5_1 : List (S83)) (x15_1 : Int), v15 = .int .i64 x15_1 ∧ Aside0 (impl_movesBy.l0 kq a0 x5_1 (a0.size : Int) x15_1 a1_0 a1_1 a1_2 = some r) ∧ Aside0 (kq ≤ k) ∧ Aside0 (Kd.R k83 83 w' w.heap.size (fun _ => True) v5 x5_1) ∧ Aside0 (w'.heap[gb219]? = some (.cells #[.bool a1_0, .bool a1_1, .bool a1_2] 32 (0, 0))) ∧ Aside0 (Below w.heap.size w w'))
  case atStart => exact ⟨(y220), (0), (by first | rfl | (simp; done) | (simp [*]; done)), H', ⟨Nat.le_refl _⟩, ⟨by (with_reducible repeat (first | apply Kd.R_alloc | apply Kd.R_drewN | apply Kd.R_drew)); exact HO222.out⟩, ⟨by (with_reducible repeat (first | refine blk_drewN ?_ _ | refine blk_drew ?_ | refine blk_alloc ?_ _)); exact BK219.out⟩, ⟨by repeat (first | (with_reducible first | exact HB.out | apply below_alloc | apply pw_below_drewN | apply below_drew1 | refine below_set ?_ GE219.out) | exact HB.out)⟩⟩
  case round =>
    clear H'
    try clear p2
    obtain ⟨x5_1, x15_1, rfl, HA, HK1, HO_5, BK219, HB⟩ := hrel
    cases gk with
    | zero => exact absurd HA.out (by simp [impl_movesBy.l0])
    | succ k1 =>
      have H := HA.out
      clear HA
      simp only [impl_movesBy.l0] at H
      by_cases c6 : x15_1 < (a0.size : Int)
      · rw [if_pos c6] at H
        have c6b0 : decide (x15_1 < (a0.size : Int)) = true := decide_eq_true c6
        clear c6
        obtain ⟨y223, hy223⟩ : ∃ y_ : List Int, y_ = (([(-1), 1] : List Int)) := ⟨_, rfl⟩
        replace H : (impl_movesBy.l1 k1 a0 x5_1 x15_1 (a0.size : Int) x15_1 y223 (y223.length : Int) 0 a1_0 a1_1 a1_2) = some r := by first | (rw [hy223]; with_reducible exact H) | (have H2_ := (Option.bind_some _ _).symm.trans H; rw [hy223]; with_reducible exact H2_) | (have H2_ := (Option.bind_some _ _).symm.trans H; with_reducible exact H2_) | with_reducible exact H | (rw [hy223]; exact H) | exact H
        have Ny223 := Aside0.mk hy223
        clear hy223
        have H' := Aside0.mk H
        clear H
        go_wp2_with (first | ((with_reducible refine gate_dst (N := 18) rfl ?_); refine Kd.R_lit (Kd.int .i64) _ 3 ?hg (N := 18) ?hd (xs := ([(-1), 1] : List Int)) (inner := [.int .i64 (-1), .int .i64 1]) (ok := fun _ => True) (okp := fun _ => True) ?hr ?hp (fun _ hk => hk) trivial (Below.refl _ _) (Nat.le_refl _) (by simp) ?_; (case hd => rfl); (case hg => rfl); (case hr => first | (go_simp; done) | (go_simp; rfl)); (case hp => exact (Reps.one (show Kd.M (Kd.int .i64) _ _ _ (-1) [.int .i64 (-1)] from rfl) (Reps.one (show Kd.M (Kd.int .i64) _ _ _ 1 [.int .i64 1] from rfl) (Reps.none _ _)))); intro v224 w7 ho8 hb hg_ hnew_; clear hg_ hnew_; (first | rw [← Ny223.out] at ho8 | (simp only [Int.reduceToNat] at ho8; rw [← Ny223.out] at ho8)); have n0_ := Aside0.mk (Kd.R_below (by (with_reducible repeat (first | apply Kd.R_alloc | apply Kd.R_drewN | apply Kd.R_drew)); exact HO_5.out) hb); have n1_ := Aside0.mk (Kd.R_lower ho8 (below_size (by repeat (first | (with_reducible first | exact HB.out | apply below_alloc | apply pw_below_drewN | apply below_drew1 | refine below_set ?_ GE219.out) | exact HB.out)))); have n2_ := Aside0.mk (blk_below (g := gb219) (o := .cells #[.bool a1_0, .bool a1_1, .bool a1_2] 32 (0, 0)) (by (with_reducible repeat (first | refine blk_drewN ?_ _ | refine blk_drew ?_ | refine blk_alloc ?_ _)); exact BK219.out) hb); have n3_ := Aside0.mk (below_step (by repeat (first | (with_reducible first | exact HB.out | apply below_alloc | apply pw_below_drewN | apply below_drew1 | refine below_set ?_ GE219.out) | exact HB.out)) hb); clear HO_5; clear BK219; clear HB; have HO_5 := n0_; have HO225 := n1_; have BK219 := n2_; have HB := n3_; clear n0_ n1_ n2_ n3_; clear hb ho8; obtain ⟨Ao9, co9, eo9⟩ := Kd.R_slice HO225.out; subst eo9))
        go_loopg [5, 20] k1 (fun kq v5 v20 w' => ∃ (x5_2 : List (S83)) (x20_2 : Int), v20 = .int .i64 x20_2 ∧ Aside0 (impl_movesBy.l1 kq a0 x5_2 x15_1 (a0.size : Int) x15_1 y223 (y223.length : Int) x20_2 a1_0 a1_1 a1_2 = some r) ∧ Aside0 (kq ≤ k1) ∧ Aside0 (Kd.R k83 83 w' w.heap.size (fun _ => True) v5 x5_2) ∧ Aside0 (Kd.R (Kd.int .i64) 3 w' w.heap.size (fun _ => True) (.slice Ao9 y223.length co9) y223) ∧ Aside0 (w'.heap[gb219]? = some (.cells #[.bool a1_0, .bool a1_1, .bool a1_2] 32 (0, 0))) ∧ Aside0 (Below w.heap.size w w'))
        case atStart => exact ⟨(x5_1), (0), (by first | rfl | (simp; done) | (simp [*]; done)), H', ⟨Nat.le_refl _⟩, ⟨by (with_reducible repeat (first | apply Kd.R_alloc | apply Kd.R_drewN | apply Kd.R_drew)); exact HO_5.out⟩, ⟨by (with_reducible repeat (first | apply Kd.R_alloc | apply Kd.R_drewN | apply Kd.R_drew)); exact HO225.out⟩, ⟨by (with_reducible repeat (first | refine blk_drewN ?_ _ | refine blk_drew ?_ | refine blk_alloc ?_ _)); exact BK219.out⟩, ⟨by repeat (first | (with_reducible first | exact HB.out | apply below_alloc | apply pw_below_drewN | apply below_drew1 | refine below_set ?_ GE219.out) | exact HB.out)⟩⟩
        case round =>
          clear H'
          try clear p2
          try clear c6
          try clear c6b0
          try clear p2
          obtain ⟨x5_2, x20_2, rfl, HA, HK2, HO_5, HO_18, BK219, HB⟩ := hrel
          cases gk with
          | zero => exact absurd HA.out (by simp [impl_movesBy.l1])
          | succ k2 =>
            have H := HA.out
            clear HA
            simp only [impl_movesBy.l1] at H
            by_cases c10 : x20_2 < (y223.length : Int)
            · rw [if_pos c10] at H
              have c10b0 : decide (x20_2 < (y223.length : Int)) = true := decide_eq_true c10
              clear c10
              by_cases c11 : 0 ≤ x20_2
              · rw [if_pos c11] at H
                have c11b0 : decide (0 ≤ x20_2) = true := decide_eq_true c11
                clear c11
                by_cases c12 : x20_2 < (y223.length : Int)
                · rw [if_pos c12] at H
                  have c12b0 : decide (x20_2 < (y223.length : Int)) = true := decide_eq_true c12
                  clear c12
                  by_cases c13 : 0 ≤ x15_1
                  · rw [if_pos c13] at H
                    have c13b0 : decide (0 ≤ x15_1) = true := decide_eq_true c13
                    clear c13
                    by_cases c14 : x15_1 < (a0.size : Int)
                    · rw [if_pos c14] at H
                      have c14b0 : decide (x15_1 < (a0.size : Int)) = true := decide_eq_true c14
                      clear c14
                      replace H := Option.bind_eq_some_iff.mp H
                      obtain ⟨t227, A160, H⟩ := H
                      replace H : (if t227 = 0 then (impl_movesBy.j2 k2 a0 x5_2 x15_1 (rd y223 x20_2) (a0.size : Int) x15_1 y223 (y223.length : Int) x20_2 true a1_0 a1_1 a1_2) else (if t227 = (rd y223 x20_2) then (impl_movesBy.j2 k2 a0 x5_2 x15_1 (rd y223 x20_2) (a0.size : Int) x15_1 y223 (y223.length : Int) x20_2 false a1_0 a1_1 a1_2) else (impl_movesBy.j2 k2 a0 x5_2 x15_1 (rd y223 x20_2) (a0.size : Int) x15_1 y223 (y223.length : Int) x20_2 (!a1_1) a1_0 a1_1 a1_2))) = some r := H
                      have A16 := Aside0.mk A160
                      clear A160
                      have HC17 := Aside0.mk H
                      clear H
                      have p226 : 0 ≤ (x20_2 : Int) := of_decide_eq_true (by first | (with_reducible assumption) | assumption)
                      have q226 : x20_2 < (y223.length : Int) := of_decide_eq_true (by first | (with_reducible assumption) | assumption)
                      obtain ⟨ad226, e226, hx226_0⟩ := Kd.at_int (Kd.R_reads' HO_18.out).2.2 x20_2 p226 q226
                      cases e226
                      replace p226 := eq_true p226
                      replace q226 := eq_true q226
                      have p15 : 0 ≤ (x15_1 : Int) := of_decide_eq_true (by first | (with_reducible assumption) | assumption)
                      have q15 : x15_1 < (a0.size : Int) := of_decide_eq_true (by first | (with_reducible assumption) | assumption)
                      have hx15 := bt_at a0 x15_1
                      replace p15 := eq_true p15
                      replace q15 := eq_true q15
                      go_upto_region 9 with (first | ((with_reducible refine gate_callee (f := 89) rfl ?_); refine goesL_ (some 27) rfl rfl Tryd.func89 (by kernel_rfl) rfl #[.int .u8 (bt a0 x15_1)] rfl (by (try simp only [List.map_toArray, List.map_cons, List.map_nil]); first | done | rfl | (simp only [List.length_drop, List.length_take]; rfl)) ?_; (with_reducible refine (impl_stepOf.calls (bt a0 x15_1) t227 _ A16.out).mono ?_); rintro e w' ⟨rfl, ⟨nd, rfl⟩⟩; refine ⟨_, rfl, ?_⟩))
                      (try simp only [Act.put, List.setIfInBounds_toArray, List.set_cons_zero, List.set_cons_succ])
                      go_cut [39] (fun v39 wc => ∃ (kq : Nat) (x39_16 : Bool), v39 = .bool x39_16 ∧ Aside0 (impl_movesBy.j2 kq a0 x5_2 x15_1 (rd y223 x20_2) (a0.size : Int) x15_1 y223 (y223.length : Int) x20_2 x39_16 a1_0 a1_1 a1_2 = some r) ∧ Aside0 (kq ≤ k2) ∧ Aside0 (Kd.R k83 83 wc w.heap.size (fun _ => True) u5 x5_2) ∧ Aside0 (Kd.R (Kd.int .i64) 3 wc w.heap.size (fun _ => True) (.slice (some ad226) y223.length co9) y223) ∧ Aside0 (wc.heap[gb219]? = some (.cells #[.bool a1_0, .bool a1_1, .bool a1_2] 32 (0, 0))) ∧ Aside0 (Below w.heap.size w wc))
                      case first =>
                        have H := HC17.out
                        clear HC17
                        by_cases c18 : t227 = 0
                        · rw [if_pos c18] at H
                          have c18b0 : (t227 == 0) = true := beq_iff_eq.mpr c18
                          have c18b1 : (t227 != 0) = false := bne_eq_false_iff_eq.mpr c18
                          clear c18
                          (first | rw [c18b0] | (simp only [i64_w, i32_w]; rw [c18b0]) | skip)
                          have H' := Aside0.mk H
                          clear H
                          go_wp2
                          go_meet
                          case rel => exact ⟨_, (true), (by first | rfl | (simp; done) | (simp [*]; done)), H', ⟨by have := HK1.out; have := HK2.out; first | omega | exact Nat.le_refl _⟩, ⟨by (with_reducible repeat (first | apply Kd.R_alloc | apply Kd.R_drewN | apply Kd.R_drew)); exact HO_5.out⟩, ⟨by (with_reducible repeat (first | apply Kd.R_alloc | apply Kd.R_drewN | apply Kd.R_drew)); exact HO_18.out⟩, ⟨by (with_reducible repeat (first | refine blk_drewN ?_ _ | refine blk_drew ?_ | refine blk_alloc ?_ _)); exact BK219.out⟩, ⟨by repeat (first | (with_reducible first | exact HB.out | apply below_alloc | apply pw_below_drewN | apply below_drew1 | refine below_set ?_ GE219.out) | exact HB.out)⟩⟩
                        · rw [if_neg c18] at H
                          have c18b0 : (t227 == 0) = false := beq_eq_false_iff_ne.mpr c18
                          have c18b1 : (t227 != 0) = true := bne_iff_ne.mpr c18
                          (first | rw [c18b0] | (simp only [i64_w, i32_w]; rw [c18b0]) | skip)
                          by_cases c19 : t227 = (rd y223 x20_2)
                          · rw [if_pos c19] at H
                            have c19b0 : (t227 == (rd y223 x20_2)) = true := beq_iff_eq.mpr c19
                            have c19b1 : (t227 != (rd y223 x20_2)) = false := bne_eq_false_iff_eq.mpr c19
                            clear c19
                            have H' := Aside0.mk H
                            clear H
                            go_wp2
                            go_meet
                            case rel => exact ⟨_, (false), (by first | rfl | (simp; done) | (simp [*]; done)), H', ⟨by have := HK1.out; have := HK2.out; first | omega | exact Nat.le_refl _⟩, ⟨by (with_reducible repeat (first | apply Kd.R_alloc | apply Kd.R_drewN | apply Kd.R_drew)); exact HO_5.out⟩, ⟨by (with_reducible repeat (first | apply Kd.R_alloc | apply Kd.R_drewN | apply Kd.R_drew)); exact HO_18.out⟩, ⟨by (with_reducible repeat (first | refine blk_drewN ?_ _ | refine blk_drew ?_ | refine blk_alloc ?_ _)); exact BK219.out⟩, ⟨by repeat (first | (with_reducible first | exact HB.out | apply below_alloc | apply pw_below_drewN | apply below_drew1 | refine below_set ?_ GE219.out) | exact HB.out)⟩⟩
                          · rw [if_neg c19] at H
                            have c19b0 : (t227 == (rd y223 x20_2)) = false := beq_eq_false_iff_ne.mpr c19
                            have c19b1 : (t227 != (rd y223 x20_2)) = true := bne_iff_ne.mpr c19
                            have H' := Aside0.mk H
                            clear H
                            have hcz20_0 : wr.cell? ⟨gb219, 0, none⟩ = some (.bool a1_0) := (blk_cell BK219.out 0).trans rfl
                            have hcz20_1 : wr.cell? ⟨gb219, 1, none⟩ = some (.bool a1_1) := (blk_cell BK219.out 1).trans rfl
                            have hcz20_2 : wr.cell? ⟨gb219, 2, none⟩ = some (.bool a1_2) := (blk_cell BK219.out 2).trans rfl
                            have hfz20_0 := blk_frozen BK219.out 0
                            have hfz20_1 := blk_frozen BK219.out 1
                            have hfz20_2 := blk_frozen BK219.out 2
                            go_wp2
                            go_meet
                            case rel => exact ⟨_, (!a1_1), (by first | rfl | (simp; done) | (simp [*]; done)), H', ⟨by have := HK1.out; have := HK2.out; first | omega | exact Nat.le_refl _⟩, ⟨by (with_reducible repeat (first | apply Kd.R_alloc | apply Kd.R_drewN | apply Kd.R_drew)); exact HO_5.out⟩, ⟨by (with_reducible repeat (first | apply Kd.R_alloc | apply Kd.R_drewN | apply Kd.R_drew)); exact HO_18.out⟩, ⟨by (with_reducible repeat (first | refine blk_drewN ?_ _ | refine blk_drew ?_ | refine blk_alloc ?_ _)); exact BK219.out⟩, ⟨by repeat (first | (with_reducible first | exact HB.out | apply below_alloc | apply pw_below_drewN | apply below_drew1 | refine below_set ?_ GE219.out) | exact HB.out)⟩⟩
                      case rest =>
                        clear HC17
                        try clear c1
                        try clear p1
                        try clear q1
                        try clear hx1
                        try clear p2
                        try clear q2
                        try clear hx2
                        try clear c6
                        try clear c6b0
                        try clear c8
                        try clear c10
                        try clear c10b0
                        try clear c11
                        try clear c11b0
                        try clear c12
                        try clear c12b0
                        try clear c13
                        try clear c13b0
                        try clear c14
                        try clear c14b0
                        try clear p15
                        try clear q15
                        try clear hx15
                        try clear c18
                        try clear c18b0
                        try clear c18b1
                        try clear c19
                        try clear c19b0
                        try clear c19b1
                        try clear hcz20_0
                        try clear hcz20_1
                        try clear hcz20_2
                        try clear hfz20_0
                        try clear hfz20_1
                        try clear hfz20_2
                        try clear hx226_0
                        try clear p15
                        try clear p2
                        try clear p226
                        try clear q15
                        try clear q226
                        obtain ⟨kq, x39_16, rfl, HA, HJ16, HO_5, HO_18, BK219, HB⟩ := hcut
                        cases kq with
                        | zero => exact absurd HA.out (by simp [impl_movesBy.j2])
                        | succ kj16 =>
                          have H := HA.out
                          clear HA
                          simp only [impl_movesBy.j2] at H
                          by_cases c21 : x39_16 = true
                          · subst c21
                            have H1 : (impl_movesBy.l1 kj16 a0 x5_2 x15_1 (a0.size : Int) x15_1 y223 (y223.length : Int) (wrap64 (x20_2 + 1)) a1_0 a1_1 a1_2) = some r := by rw [if_pos rfl] at H; exact H
                            clear H
                            have H := H1
                            clear H1
                            have H' := Aside0.mk H
                            clear H
                            go_wp2
                            go_roundg kj16
                            case measure => have := HK1.out; have := HK2.out; have := HJ16.out; omega
                            case rel => exact ⟨(x5_2), (wrap64 (x20_2 + 1)), (by first | rfl | (simp; done) | (simp [*]; done)), H', ⟨by have := HK1.out; have := HK2.out; have := HJ16.out; omega⟩, ⟨by (with_reducible repeat (first | apply Kd.R_alloc | apply Kd.R_drewN | apply Kd.R_drew)); exact HO_5.out⟩, ⟨by (with_reducible repeat (first | apply Kd.R_alloc | apply Kd.R_drewN | apply Kd.R_drew)); exact HO_18.out⟩, ⟨by (with_reducible repeat (first | refine blk_drewN ?_ _ | refine blk_drew ?_ | refine blk_alloc ?_ _)); exact BK219.out⟩, ⟨by repeat (first | (with_reducible first | exact HB.out | apply below_alloc | apply pw_below_drewN | apply below_drew1 | refine below_set ?_ GE219.out) | exact HB.out)⟩⟩
                          · replace c21 := Bool.eq_false_iff.mpr c21
                            subst c21
                            have H1 : ((impl_goalBy.f kj16 a0 x15_1 (rd y223 x20_2) a1_0 a1_1 a1_2).bind fun bt228 => (if bt228.2 = true then (if x5_2.length < 8796093022208 then (impl_movesBy.l1 kj16 a0 (x5_2 ++ [(⟨x15_1, bt228.1⟩ : S83)]) x15_1 (a0.size : Int) x15_1 y223 (y223.length : Int) (wrap64 (x20_2 + 1)) a1_0 a1_1 a1_2) else (none)) else (impl_movesBy.l1 kj16 a0 x5_2 x15_1 (a0.size : Int) x15_1 y223 (y223.length : Int) (wrap64 (x20_2 + 1)) a1_0 a1_1 a1_2))) = some r := by rw [if_neg (show ¬ (false = true) by decide)] at H; exact H
                            clear H
                            have H := H1
                            clear H1
                            replace H := Option.bind_eq_some_iff.mp H
                            obtain ⟨⟨t228, t229⟩, A220, H⟩ := H
                            replace H : (if t229 = true then (if x5_2.length < 8796093022208 then (impl_movesBy.l1 kj16 a0 (x5_2 ++ [(⟨x15_1, t228⟩ : S83)]) x15_1 (a0.size : Int) x15_1 y223 (y223.length : Int) (wrap64 (x20_2 + 1)) a1_0 a1_1 a1_2) else (none)) else (impl_movesBy.l1 kj16 a0 x5_2 x15_1 (a0.size : Int) x15_1 y223 (y223.length : Int) (wrap64 (x20_2 + 1)) a1_0 a1_1 a1_2)) = some r := H
                            have A22 := Aside0.mk A220
                            clear A220
                            by_cases c23 : t229 = true
                            · subst c23
                              have H1 : (if x5_2.length < 8796093022208 then (impl_movesBy.l1 kj16 a0 (x5_2 ++ [(⟨x15_1, t228⟩ : S83)]) x15_1 (a0.size : Int) x15_1 y223 (y223.length : Int) (wrap64 (x20_2 + 1)) a1_0 a1_1 a1_2) else (none)) = some r := by rw [if_pos rfl] at H; exact H
                              clear H
                              have H := H1
                              clear H1
                              by_cases c24 : x5_2.length < 8796093022208
                              · rw [if_pos c24] at H
                                have LMc24 := Aside0.mk c24
                                clear c24
                                obtain ⟨y230, hy230⟩ : ∃ y_ : List (S83), y_ = (x5_2 ++ [(⟨x15_1, t228⟩ : S83)]) := ⟨_, rfl⟩
                                replace H : (impl_movesBy.l1 kj16 a0 y230 x15_1 (a0.size : Int) x15_1 y223 (y223.length : Int) (wrap64 (x20_2 + 1)) a1_0 a1_1 a1_2) = some r := by first | (rw [hy230]; with_reducible exact H) | (have H2_ := (Option.bind_some _ _).symm.trans H; rw [hy230]; with_reducible exact H2_) | (have H2_ := (Option.bind_some _ _).symm.trans H; with_reducible exact H2_) | with_reducible exact H | (rw [hy230]; exact H) | exact H
                                have Ny230 := Aside0.mk hy230
                                clear hy230
                                have H' := Aside0.mk H
                                clear H
                                have hcz25_0 : wc.cell? ⟨gb219, 0, none⟩ = some (.bool a1_0) := (blk_cell BK219.out 0).trans rfl
                                have hcz25_1 : wc.cell? ⟨gb219, 1, none⟩ = some (.bool a1_1) := (blk_cell BK219.out 1).trans rfl
                                have hcz25_2 : wc.cell? ⟨gb219, 2, none⟩ = some (.bool a1_2) := (blk_cell BK219.out 2).trans rfl
                                have hfz25_0 := blk_frozen BK219.out 0
                                have hfz25_1 := blk_frozen BK219.out 1
                                have hfz25_2 := blk_frozen BK219.out 2
                                go_wp2_with (first | ((with_reducible refine gate_callee (f := 95) rfl ?_); refine goesL_ (some 45) rfl rfl Tryd.func95 (by kernel_rfl) rfl #[.string a0, .int .i64 x15_1, .int .i64 (rd y223 x20_2), .agg #[.bool a1_0, .bool a1_1, .bool a1_2]] rfl (by (try simp only [List.map_toArray, List.map_cons, List.map_nil]); first | done | rfl | (simp only [List.length_drop, List.length_take]; rfl)) ?_; (with_reducible refine (impl_goalBy.calls kj16 a0 x15_1 (rd y223 x20_2) a1_0 a1_1 a1_2 t228 true _ A22.out).mono ?_); rintro e w26 ⟨rfl, hb⟩; refine ⟨_, rfl, ?_⟩; have n0_ := Aside0.mk (Kd.R_below (by (with_reducible repeat (first | apply Kd.R_alloc | apply Kd.R_drewN | apply Kd.R_drew)); exact HO_5.out) hb); have n1_ := Aside0.mk (Kd.R_below (by (with_reducible repeat (first | apply Kd.R_alloc | apply Kd.R_drewN | apply Kd.R_drew)); exact HO_18.out) hb); have n2_ := Aside0.mk (blk_below (g := gb219) (o := .cells #[.bool a1_0, .bool a1_1, .bool a1_2] 32 (0, 0)) (by (with_reducible repeat (first | refine blk_drewN ?_ _ | refine blk_drew ?_ | refine blk_alloc ?_ _)); exact BK219.out) hb); have n3_ := Aside0.mk (below_step (by repeat (first | (with_reducible first | exact HB.out | apply below_alloc | apply pw_below_drewN | apply below_drew1 | refine below_set ?_ GE219.out) | exact HB.out)) hb); clear HO_5; clear HO_18; clear BK219; clear HB; have HO_5 := n0_; have HO_18 := n1_; have BK219 := n2_; have HB := n3_; clear n0_ n1_ n2_ n3_; (try clear hb); (try clear hb2); (try clear hk); (try clear hi)) | ((with_reducible refine gate_builtin (b := .append) (xs := #[.tmp 49, .tmp 53]) rfl ?_); at_builtin; refine Kd.R_append k83 (w0 := w) w.heap.size rfl (.tmp 49) (.tmp 53) 46 83 (.agg #[(.int .i64 0), (.int .i64 0)]) 16 rfl Tryd.underlying46 info83 rfl (by decide) (by omega) u5 x5_2 (⟨x15_1, t228⟩ : S83) [.int .i64 x15_1, .int .i64 t228] (fun _ => True) (fun _ => False) rfl rfl ?aP (fun _ hk => hk.elim) ?aF ?aO ?aB ?aS ?aL ?_; (case aP => exact k83_mkM _ _ _ (⟨x15_1, t228⟩ : S83)); (case aB => exact (by repeat (first | (with_reducible first | exact HB.out | apply below_alloc | apply pw_below_drewN | apply below_drew1 | refine below_set ?_ GE219.out) | exact HB.out))); (case aF => exact (fun _ _ => trivial)); (case aO => exact (by (with_reducible repeat (first | apply Kd.R_alloc | apply Kd.R_drewN | apply Kd.R_drew)); exact HO_5.out)); (case aS => exact (below_size (by repeat (first | (with_reducible first | exact HB.out | apply below_alloc | apply pw_below_drewN | apply below_drew1 | refine below_set ?_ GE219.out) | exact HB.out)))); (case aL => have := LMc24.out; omega); intro v231 w27 ho hb hg hat; rw [← Ny230.out] at ho; have n0_ := Aside0.mk (Kd.R_over' (by (with_reducible repeat (first | apply Kd.R_alloc | apply Kd.R_drewN | apply Kd.R_drew)); exact HO_18.out) (Kd.R_typed (by (with_reducible repeat (first | apply Kd.R_alloc | apply Kd.R_drewN | apply Kd.R_drew)); exact HO_5.out)) (by decide) hg); have n1_ := Aside0.mk (blk_grown (g := gb219) (o := .cells #[.bool a1_0, .bool a1_1, .bool a1_2] 32 (0, 0)) (by (with_reducible repeat (first | refine blk_drewN ?_ _ | refine blk_drew ?_ | refine blk_alloc ?_ _)); exact BK219.out) hg (Kd.R_ne HO_5.out BK219.out (by decide))); have n2_ := Aside0.mk (hb); have n3_ := Aside0.mk (ho); clear HO_18; clear BK219; clear HB; clear HO_5; have HO_18 := n0_; have BK219 := n1_; have HB := n2_; have HO232 := n3_; clear n0_ n1_ n2_ n3_; clear ho hb hg hat))
                                go_roundg kj16
                                case measure => have := HK1.out; have := HK2.out; have := HJ16.out; omega
                                case rel => exact ⟨(y230), (wrap64 (x20_2 + 1)), (by first | rfl | (simp; done) | (simp [*]; done)), H', ⟨by have := HK1.out; have := HK2.out; have := HJ16.out; omega⟩, ⟨by (with_reducible repeat (first | apply Kd.R_alloc | apply Kd.R_drewN | apply Kd.R_drew)); exact HO232.out⟩, ⟨by (with_reducible repeat (first | apply Kd.R_alloc | apply Kd.R_drewN | apply Kd.R_drew)); exact HO_18.out⟩, ⟨by (with_reducible repeat (first | refine blk_drewN ?_ _ | refine blk_drew ?_ | refine blk_alloc ?_ _)); exact BK219.out⟩, ⟨by repeat (first | (with_reducible first | exact HB.out | apply below_alloc | apply pw_below_drewN | apply below_drew1 | refine below_set ?_ GE219.out) | exact HB.out)⟩⟩
                              · rw [if_neg c24] at H
                                exact absurd H (by simp)
                            · replace c23 := Bool.eq_false_iff.mpr c23
                              subst c23
                              have H1 : (impl_movesBy.l1 kj16 a0 x5_2 x15_1 (a0.size : Int) x15_1 y223 (y223.length : Int) (wrap64 (x20_2 + 1)) a1_0 a1_1 a1_2) = some r := by rw [if_neg (show ¬ (false = true) by decide)] at H; exact H
                              clear H
                              have H := H1
                              clear H1
                              have H' := Aside0.mk H
                              clear H
                              have hcz28_0 : wc.cell? ⟨gb219, 0, none⟩ = some (.bool a1_0) := (blk_cell BK219.out 0).trans rfl
                              have hcz28_1 : wc.cell? ⟨gb219, 1, none⟩ = some (.bool a1_1) := (blk_cell BK219.out 1).trans rfl
                              have hcz28_2 : wc.cell? ⟨gb219, 2, none⟩ = some (.bool a1_2) := (blk_cell BK219.out 2).trans rfl
                              have hfz28_0 := blk_frozen BK219.out 0
                              have hfz28_1 := blk_frozen BK219.out 1
                              have hfz28_2 := blk_frozen BK219.out 2
                              go_wp2_with (first | ((with_reducible refine gate_callee (f := 95) rfl ?_); refine goesL_ (some 45) rfl rfl Tryd.func95 (by kernel_rfl) rfl #[.string a0, .int .i64 x15_1, .int .i64 (rd y223 x20_2), .agg #[.bool a1_0, .bool a1_1, .bool a1_2]] rfl (by (try simp only [List.map_toArray, List.map_cons, List.map_nil]); first | done | rfl | (simp only [List.length_drop, List.length_take]; rfl)) ?_; (with_reducible refine (impl_goalBy.calls kj16 a0 x15_1 (rd y223 x20_2) a1_0 a1_1 a1_2 t228 false _ A22.out).mono ?_); rintro e w29 ⟨rfl, hb⟩; refine ⟨_, rfl, ?_⟩; have n0_ := Aside0.mk (Kd.R_below (by (with_reducible repeat (first | apply Kd.R_alloc | apply Kd.R_drewN | apply Kd.R_drew)); exact HO_5.out) hb); have n1_ := Aside0.mk (Kd.R_below (by (with_reducible repeat (first | apply Kd.R_alloc | apply Kd.R_drewN | apply Kd.R_drew)); exact HO_18.out) hb); have n2_ := Aside0.mk (blk_below (g := gb219) (o := .cells #[.bool a1_0, .bool a1_1, .bool a1_2] 32 (0, 0)) (by (with_reducible repeat (first | refine blk_drewN ?_ _ | refine blk_drew ?_ | refine blk_alloc ?_ _)); exact BK219.out) hb); have n3_ := Aside0.mk (below_step (by repeat (first | (with_reducible first | exact HB.out | apply below_alloc | apply pw_below_drewN | apply below_drew1 | refine below_set ?_ GE219.out) | exact HB.out)) hb); clear HO_5; clear HO_18; clear BK219; clear HB; have HO_5 := n0_; have HO_18 := n1_; have BK219 := n2_; have HB := n3_; clear n0_ n1_ n2_ n3_; (try clear hb); (try clear hb2); (try clear hk); (try clear hi)))
                              go_roundg kj16
                              case measure => have := HK1.out; have := HK2.out; have := HJ16.out; omega
                              case rel => exact ⟨(x5_2), (wrap64 (x20_2 + 1)), (by first | rfl | (simp; done) | (simp [*]; done)), H', ⟨by have := HK1.out; have := HK2.out; have := HJ16.out; omega⟩, ⟨by (with_reducible repeat (first | apply Kd.R_alloc | apply Kd.R_drewN | apply Kd.R_drew)); exact HO_5.out⟩, ⟨by (with_reducible repeat (first | apply Kd.R_alloc | apply Kd.R_drewN | apply Kd.R_drew)); exact HO_18.out⟩, ⟨by (with_reducible repeat (first | refine blk_drewN ?_ _ | refine blk_drew ?_ | refine blk_alloc ?_ _)); exact BK219.out⟩, ⟨by repeat (first | (with_reducible first | exact HB.out | apply below_alloc | apply pw_below_drewN | apply below_drew1 | refine below_set ?_ GE219.out) | exact HB.out)⟩⟩
                    · rw [if_neg c14] at H
                      exact absurd H (by simp)
                  · rw [if_neg c13] at H
                    exact absurd H (by simp)
                · rw [if_neg c12] at H
                  exact absurd H (by simp)
              · rw [if_neg c11] at H
                exact absurd H (by simp)
            · rw [if_neg c10] at H
              have c10b0 : decide (x20_2 < (y223.length : Int)) = false := decide_eq_false c10
              clear c10
              have H' := Aside0.mk H
              clear H
              go_wp2
              go_roundg k2
              case measure => have := HK1.out; have := HK2.out; omega
              case rel => exact ⟨(x5_2), (wrap64 (x15_1 + 1)), (by first | rfl | (simp; done) | (simp [*]; done)), H', ⟨by have := HK1.out; have := HK2.out; omega⟩, ⟨by (with_reducible repeat (first | apply Kd.R_alloc | apply Kd.R_drewN | apply Kd.R_drew)); exact HO_5.out⟩, ⟨by (with_reducible repeat (first | refine blk_drewN ?_ _ | refine blk_drew ?_ | refine blk_alloc ?_ _)); exact BK219.out⟩, ⟨by repeat (first | (with_reducible first | exact HB.out | apply below_alloc | apply pw_below_drewN | apply below_drew1 | refine below_set ?_ GE219.out) | exact HB.out)⟩⟩
      · rw [if_neg c6] at H
        have c6b0 : decide (x15_1 < (a0.size : Int)) = false := decide_eq_false c6
        clear c6
        obtain rfl := Option.some.inj H
        go_wp2
        go_ret
        exact ⟨_, by first | rfl | (simp [errW_none, errW_some] <;> rfl) | (simp [*, errW_none, errW_some] <;> rfl), by (with_reducible repeat (first | apply Kd.R_alloc | apply Kd.R_drewN | apply Kd.R_drew)); exact HO_5.out, by repeat (first | (with_reducible first | exact HB.out | apply below_alloc | apply pw_below_drewN | apply below_drew1 | refine below_set ?_ GE219.out) | exact HB.out)⟩

/-! ### impl_byRule: function 58 (given) -/
section
open Go Go.RowKit Go.Lib Go.Proofs.YtjgijaocinpkhaaDoorW.PrintWords Go.Proofs.YtjgijaocinpkhaaDoorW.PrintLast Go.Proofs.YtjgijaocinpkhaaDoor.Pm
theorem PathsAt.lower {w0 w1 w : World} {v : Value} {E : List PEnt} (h : PathsAt w1 w v E) (hs : w0.heap.size ≤ w1.heap.size) : PathsAt w0 w v E := by
  obtain ⟨bm, v0, v2, v3, v4, e, hl, hm, r0, r2, r3, r4, hne⟩ := h
  exact ⟨bm, v0, v2, v3, v4, e, by omega, hm, Kd.R_lower r0 hs, Kd.R_lower r2 hs, Kd.R_lower r3 hs, Kd.R_lower r4 hs, hne⟩
/-- the search stays as it lies while blocks that are none of its own turn -/
theorem PathsAt.move {w0 w w1 : World} {v : Value} {E : List PEnt} (h : PathsAt w0 w v E) (g : Nat) (hg : g ≤ w0.heap.size) {cs : Array Value} {t : Nat} (hb : w.heap[g]? = some (.cells cs t (0, 0))) (h9 : 9 ≠ t) (h3 : 3 ≠ t) (hv : 83 ≠ t) (hk : ∀ k, k ≠ g → w1.heap[k]? = w.heap[k]?) : PathsAt w0 w1 v E := by
  obtain ⟨bm, v0, v2, v3, v4, e, hl, hm, r0, r2, r3, r4, hne⟩ := h
  have ob : ∀ (u : Value), some g ≠ u.ownBlock → ∀ k, u.ownBlock = some k → k ≠ g := fun u hu k hk e => hu (by rw [hk, e])
  exact ⟨bm, v0, v2, v3, v4, e, hl, hm.move (hk bm (by omega)), R_stay flat_s r0 (fun k hk' => hk k (ob _ (Kd.R_ne r0 hb h9) k hk')), R_stay flat_i r2 (fun k hk' => hk k (ob _ (Kd.R_ne r2 hb h3) k hk')), R_stay flat_m r3 (fun k hk' => hk k (ob _ (Kd.R_ne r3 hb hv) k hk')), R_stay flat_i r4 (fun k hk' => hk k (ob _ (Kd.R_ne r4 hb h3) k hk')), hne⟩
theorem PathsAt.up {w0 w w1 : World} {v : Value} {E : List PEnt} (h : PathsAt w0 w v E) (hb : Below w.heap.size w w1) : PathsAt w0 w1 v E := by
  obtain ⟨bm, v0, v2, v3, v4, e, hl, hm, r0, r2, r3, r4, hne⟩ := h
  exact ⟨bm, v0, v2, v3, v4, e, hl, hm.below hb, Kd.R_below r0 hb, Kd.R_below r2 hb, Kd.R_below r3 hb, Kd.R_below r4 hb, hne⟩
set_option maxHeartbeats 4000000 in
set_option maxRecDepth 1000000 in
theorem impl_byRule.pays (o b l : Bool) (w0 : World) (g : Nat) (hg : w0.heap[g]? = some (.cells #[.bool o, .bool b, .bool l] 32 (0, 0))) (W : World) (s : ByteArray) (ms : List S83) (hW : Below w0.heap.size w0 W) (h : impl_movesBy.f 2000 s o b l = some ms) :
    Calls Tryd.prog 92 (#[.string s] ++ #[.pointer (some ⟨g, 0, none⟩)]) W fun e W' => ∃ v, e = .returned v ∧ Kd.R k83 83 W' W.heap.size (fun _ => True) v ms ∧ Below W.heap.size W W' := by
  have hb := blk_below hg hW
  have c0 : W.cell? ⟨g, 0, none⟩ = some (.bool o) := (blk_cell hb 0).trans rfl
  have c1 : W.cell? ⟨g, 1, none⟩ = some (.bool b) := (blk_cell hb 1).trans rfl
  have c2 : W.cell? ⟨g, 2, none⟩ = some (.bool l) := (blk_cell hb 2).trans rfl
  clear hg hW hb
  go_enter Tryd.func92, Tryd.ntmps92
  go_wp2_with (first
    | (go_at_call 69; refine (impl_movesBy.calls 2000 s o b l ms _ h).mono ?_; rintro e w2 ⟨v2, rfl, ho, hb⟩))
  go_ret
  exact ⟨_, rfl, ho, hb⟩
theorem impl_byRule.enters : Enters Tryd.prog 92 := enters_of Tryd.func92 (by kernel_rfl) rfl
/-- all texts that are reached by a rule -/
def byRuleO (K : Nat) (a : ByteArray) (o b l : Bool) : Option (List PEnt) := if a.size ≤ 1000 then pathsO (fun s => impl_movesBy.f 2000 s o b l) K 0 [⟨a, -1, ⟨0, 0⟩, 0⟩] else none
set_option maxHeartbeats 4000000 in
set_option maxRecDepth 1000000 in
theorem impl_byRule.walk (K : Nat) (a : ByteArray) (o b l : Bool) (EF : List PEnt) (w : World) (h : byRuleO K a o b l = some EF) :
    Calls Tryd.prog 58 #[.string a, .agg #[.bool o, .bool b, .bool l]] w fun e w' => ∃ v, e = .returned v ∧ PathsAt w w' v EF ∧ Pe EF ∧ Below w.heap.size w w' := by
  unfold byRuleO at h
  split at h
  case isFalse => cases h
  rename_i ha
  have hmf : ∀ (fn : Fn) (first cap : Array Value) (w : World), (Instr.makeFunc fn first cap).run Tryd.prog w = .ok (.func fn first cap) w := fun _ _ _ _ => rfl
  obtain ⟨W1, hW1⟩ : ∃ W1, (w.alloc (.cells #[.bool o, .bool b, .bool l] 32 (0, 0))).alloc (.cells #[.slice none 0 0, .map none, .slice none 0 0, .slice none 0 0, .slice none 0 0] 67 (0, 0)) = W1 := ⟨_, rfl⟩
  have hB1 : Below w.heap.size w W1 := hW1 ▸ below_alloc (below_alloc (Below.refl _ _) _) _
  have hs1 : W1.heap.size = w.heap.size + 1 + 1 := by rw [← hW1]; simp
  have hx1 : W1.heap[w.heap.size]? = some (.cells #[.bool o, .bool b, .bool l] 32 (0, 0)) := hW1 ▸ blk_alloc (blk_new w _) _
  have hr1 : W1.heap[w.heap.size + 1]? = some (.cells #[.slice none 0 0, .map none, .slice none 0 0, .slice none 0 0, .slice none 0 0] 67 (0, 0)) := by
    rw [← hW1, show w.heap.size + 1 = (w.alloc (.cells #[.bool o, .bool b, .bool l] 32 (0, 0))).heap.size by simp]
    exact blk_new _ _
  have HC := Aside0.mk (impl_pathsFrom.walk 92 #[.pointer (some ⟨w.heap.size, 0, none⟩)] impl_byRule.enters (fun s => impl_movesBy.f 2000 s o b l) a ha K EF W1 (fun W s ms hW hm => impl_byRule.pays o b l W1 w.heap.size hx1 W s ms hW hm) h)
  clear h
  go_enter Tryd.func58, Tryd.ntmps58
  go_wp2_with (first
    | (go_at_call 52; refine HC.out.mono ?_; rintro e w2 ⟨v, rfl, hP, hE, hb2⟩; obtain ⟨bm, v0, v2, v3, v4, rfl, hl, hm, r0, r2, r3, r4, hne⟩ := hP; obtain ⟨A0, n0, k0, z0⟩ := R_any r0; obtain ⟨A2, n2, k2, z2⟩ := R_any r2; obtain ⟨A3, n3, k3, z3⟩ := R_any r3; obtain ⟨A4, n4, k4, z4⟩ := R_any r4; subst z0; subst z2; subst z3; subst z4; have hr2 := blk_below hr1 hb2; have hd0 : w2.cell? ⟨w.heap.size + 1, 0, none⟩ = some (.slice none 0 0) := (blk_cell hr2 0).trans rfl; have hd1 : w2.cell? ⟨w.heap.size + 1, 1, none⟩ = some (.map none) := (blk_cell hr2 1).trans rfl; have hd2 : w2.cell? ⟨w.heap.size + 1, 2, none⟩ = some (.slice none 0 0) := (blk_cell hr2 2).trans rfl; have hd3 : w2.cell? ⟨w.heap.size + 1, 3, none⟩ = some (.slice none 0 0) := (blk_cell hr2 3).trans rfl; have hd4 : w2.cell? ⟨w.heap.size + 1, 4, none⟩ = some (.slice none 0 0) := (blk_cell hr2 4).trans rfl; have hf0 := blk_frozen hr2 0; have hf1 := blk_frozen hr2 1; have hf2 := blk_frozen hr2 2; have hf3 := blk_frozen hr2 3; have hf4 := blk_frozen hr2 4))
  have y0 : ((w2).setCell ⟨w.heap.size + 1, 0, none⟩ (.slice A0 n0 k0)).heap[w.heap.size + 1]? = some (.cells #[(.slice A0 n0 k0), (.map none), (.slice none 0 0), (.slice none 0 0), (.slice none 0 0)] 67 (0, 0)) := blk_put hr2 0 (.slice A0 n0 k0) rfl
  have y1 : (((w2).setCell ⟨w.heap.size + 1, 0, none⟩ (.slice A0 n0 k0)).setCell ⟨w.heap.size + 1, 1, none⟩ (.map (some bm))).heap[w.heap.size + 1]? = some (.cells #[(.slice A0 n0 k0), (.map (some bm)), (.slice none 0 0), (.slice none 0 0), (.slice none 0 0)] 67 (0, 0)) := blk_put y0 1 (.map (some bm)) rfl
  have y2 : ((((w2).setCell ⟨w.heap.size + 1, 0, none⟩ (.slice A0 n0 k0)).setCell ⟨w.heap.size + 1, 1, none⟩ (.map (some bm))).setCell ⟨w.heap.size + 1, 2, none⟩ (.slice A2 n2 k2)).heap[w.heap.size + 1]? = some (.cells #[(.slice A0 n0 k0), (.map (some bm)), (.slice A2 n2 k2), (.slice none 0 0), (.slice none 0 0)] 67 (0, 0)) := blk_put y1 2 (.slice A2 n2 k2) rfl
  have y3 : (((((w2).setCell ⟨w.heap.size + 1, 0, none⟩ (.slice A0 n0 k0)).setCell ⟨w.heap.size + 1, 1, none⟩ (.map (some bm))).setCell ⟨w.heap.size + 1, 2, none⟩ (.slice A2 n2 k2)).setCell ⟨w.heap.size + 1, 3, none⟩ (.slice A3 n3 k3)).heap[w.heap.size + 1]? = some (.cells #[(.slice A0 n0 k0), (.map (some bm)), (.slice A2 n2 k2), (.slice A3 n3 k3), (.slice none 0 0)] 67 (0, 0)) := blk_put y2 3 (.slice A3 n3 k3) rfl
  have y4 : ((((((w2).setCell ⟨w.heap.size + 1, 0, none⟩ (.slice A0 n0 k0)).setCell ⟨w.heap.size + 1, 1, none⟩ (.map (some bm))).setCell ⟨w.heap.size + 1, 2, none⟩ (.slice A2 n2 k2)).setCell ⟨w.heap.size + 1, 3, none⟩ (.slice A3 n3 k3)).setCell ⟨w.heap.size + 1, 4, none⟩ (.slice A4 n4 k4)).heap[w.heap.size + 1]? = some (.cells #[(.slice A0 n0 k0), (.map (some bm)), (.slice A2 n2 k2), (.slice A3 n3 k3), (.slice A4 n4 k4)] 67 (0, 0)) := blk_put y3 4 (.slice A4 n4 k4) rfl
  have hP : PathsAt W1 w2 (.agg #[(.slice A0 n0 k0), (.map (some bm)), (.slice A2 n2 k2), (.slice A3 n3 k3), (.slice A4 n4 k4)]) EF := ⟨bm, _, _, _, _, rfl, hl, hm, r0, r2, r3, r4, hne⟩
  refine bodyPost_ret (results_cell_row rfl _ _ (w.heap.size + 1) 67 #[(.slice A0 n0 k0), (.map (some bm)), (.slice A2 n2 k2), (.slice A3 n3 k3), (.slice A4 n4 k4)] (0, 0) _ rfl y4 Tryd.underlying67 rfl (by kernel_rfl)) rfl ?_
  have hk : ∀ k, k ≠ w.heap.size + 1 → ((((((w2).setCell ⟨w.heap.size + 1, 0, none⟩ (.slice A0 n0 k0)).setCell ⟨w.heap.size + 1, 1, none⟩ (.map (some bm))).setCell ⟨w.heap.size + 1, 2, none⟩ (.slice A2 n2 k2)).setCell ⟨w.heap.size + 1, 3, none⟩ (.slice A3 n3 k3)).setCell ⟨w.heap.size + 1, 4, none⟩ (.slice A4 n4 k4)).heap[k]? = w2.heap[k]? := fun k hk => by
    rw [Below.heap_setCell _ ⟨w.heap.size + 1, 4, none⟩ _ k hk, Below.heap_setCell _ ⟨w.heap.size + 1, 3, none⟩ _ k hk, Below.heap_setCell _ ⟨w.heap.size + 1, 2, none⟩ _ k hk, Below.heap_setCell _ ⟨w.heap.size + 1, 1, none⟩ _ k hk, Below.heap_setCell _ ⟨w.heap.size + 1, 0, none⟩ _ k hk]
  have hle : w.heap.size ≤ w.heap.size + 1 := Nat.le_succ _
  have hB2 := below_step hB1 hb2
  have hB := (((((hB2.setCell (p := ⟨w.heap.size + 1, 0, none⟩) hle (.slice A0 n0 k0)).setCell (p := ⟨w.heap.size + 1, 1, none⟩) hle (.map (some bm))).setCell (p := ⟨w.heap.size + 1, 2, none⟩) hle (.slice A2 n2 k2)).setCell (p := ⟨w.heap.size + 1, 3, none⟩) hle (.slice A3 n3 k3)).setCell (p := ⟨w.heap.size + 1, 4, none⟩) hle (.slice A4 n4 k4))
  clear y0 y1 y2 y3 y4
  generalize (((((w2).setCell ⟨w.heap.size + 1, 0, none⟩ (.slice A0 n0 k0)).setCell ⟨w.heap.size + 1, 1, none⟩ (.map (some bm))).setCell ⟨w.heap.size + 1, 2, none⟩ (.slice A2 n2 k2)).setCell ⟨w.heap.size + 1, 3, none⟩ (.slice A3 n3 k3)).setCell ⟨w.heap.size + 1, 4, none⟩ (.slice A4 n4 k4) = W9 at *
  exact ⟨_, rfl, (hP.move (w.heap.size + 1) (by omega) hr2 (by decide) (by decide) (by decide) hk).lower (by omega), hE, hB⟩
end
def impl_byRule.f (a0 : ByteArray) : Option (ByteArray) := none

/-! ### impl_BothWays: function 36 (given) -/
section
open Go Go.RowKit Go.Lib Go.Proofs.YtjgijaocinpkhaaDoorW.PrintWords Go.Proofs.YtjgijaocinpkhaaDoorW.PrintLast Go.Proofs.YtjgijaocinpkhaaDoor.Pm
-- uses impl_byRule.calls impl_isReachLine.calls impl_movesBy.calls impl_made.calls impl_pathsFrom.calls
theorem R_scellW {e base g n cap : Nat} {ok : Nat → Prop} {w : World} {xs : List ByteArray} (h : Kd.string.R e w base ok (.slice (some ⟨g, 0, none⟩) n cap) xs) (i : Int) (h0 : 0 ≤ i) (hi : i < n) : w.cell? ⟨g, i.toNat, none⟩ = some (.string (rdOf ByteArray.empty xs i)) := (Kd.R_celln (enc := Value.string) (h1 := fun _ => rfl) ByteArray.empty h i h0 hi).1
/-- where a text stands first -/
def ixW (y : ByteArray) (N : List ByteArray) : Nat := N.findIdx fun x => decide (x = y)
theorem ixW_at {y : ByteArray} {N : List ByteArray} (h : y ∈ N) : N[ixW y N]? = some y := by
  have hl : ixW y N < N.length := List.findIdx_lt_length_of_exists ⟨y, h, by simp⟩
  have hp := List.findIdx_getElem (w := hl)
  rw [List.getElem?_eq_getElem hl]
  exact congrArg some (of_decide_eq_true hp)
/-- a text's moves: its number is set behind the row of each text that a move leads to -/
def visB (N : List ByteArray) (x : ByteArray) (i : Nat) : List S83 → List (List Int) → Option (List (List Int))
  | [], L => some L
  | m :: r, L => (impl_made.f x m.f0 m.f1).bind fun y => if y.size ≤ 1000 ∧ inN y N = true ∧ (L.getD (ixW y N) []).length < 1000000000 then visB N x i r (L.set (ixW y N) (L.getD (ixW y N) [] ++ [(i : Int)])) else none
/-- for each text, the numbers of the texts that lead to it -/
def befB (M : ByteArray → Option (List S83)) (N : List ByteArray) : Nat → List ByteArray → List (List Int) → Option (List (List Int))
  | _, [], L => some L
  | i, x :: r, L => (M x).bind fun ms => if ms.length ≤ 1000000 then (visB N x i ms L).bind fun L' => befB M N (i + 1) r L' else none
/-- a row's numbers, set down where they are new -/
def innB : List Int → List Bool → List Int → Option (List Bool × List Int)
  | [], s, l => some (s, l)
  | i :: r, s, l => if 0 ≤ i ∧ i < (s.length : Int) then (if s.getD i.toNat false = true then innB r s l else if l.length < 1000000 then innB r (s.set i.toNat true) (l ++ [i]) else none) else none
/-- all numbers that are reached back -/
def outB (L : List (List Int)) : Nat → Nat → List Bool → List Int → Option (List Int)
  | 0, _, _, _ => none
  | f + 1, k, s, l => match l[k]? with
    | none => some l
    | some j => if (0 ≤ j ∧ j < (L.length : Int)) ∧ (L.getD j.toNat []).length ≤ 1000000000 then (innB (L.getD j.toNat []) s l).bind fun q => outB L f (k + 1) q.1 q.2 else none
/-- rows of rows of numbers, apart from one row -/
abbrev SB (w : World) (base : Nat) (ok : Nat → Prop) (g n c : Nat) (L : List (List Int)) : Prop := Kd.S (Kd.slice 3 (Kd.int .i64)) 65 w base ok (.slice (some ⟨g, 0, none⟩) n c) L
set_option maxHeartbeats 4000000 in
set_option maxRecDepth 1000000 in
theorem impl_BothWays.no_ (a : ByteArray) (o b l : Bool) (w : World) (h : impl_isReachLine.f a = some false) :
    Calls Tryd.prog 36 #[.string a, .agg #[.bool o, .bool b, .bool l]] w fun e w' => e = .returned (.tuple #[.bool false, .bool false]) ∧ Below w.heap.size w w' := by
  go_enter Tryd.func36, Tryd.ntmps36
  go_wp2_with (first
    | (go_at_call 57; refine (impl_isReachLine.calls a false _ h).mono ?_; rintro e w1 ⟨rfl, hx⟩; have hb1 := below_step (below_alloc (Below.refl _ _) _) hx))
  go_ret2
  exact ⟨rfl, hb1⟩
set_option maxHeartbeats 4000000 in
set_option maxRecDepth 1000000 in
theorem impl_BothWays.walk (K : Nat) (a : ByteArray) (o b l : Bool) (E : List PEnt) (N : List ByteArray) (LB : List (List Int)) (ls : List Int) (w : World) (h : impl_isReachLine.f a = some true) (hE : byRuleO 100000 a o b l = some E) (hN : Bfs.nodes E = N) (hE0 : 0 < N.length)
    (hL : befB (fun s => impl_movesBy.f 2000 s o b l) N 0 N (List.replicate N.length []) = some LB) (hS : outB LB K 0 ((List.replicate N.length false).set 0 true) [0] = some ls) :
    Calls Tryd.prog 36 #[.string a, .agg #[.bool o, .bool b, .bool l]] w fun e w' => e = .returned (.tuple #[.bool (((ls.length : Int) == (N.length : Int))), .bool true]) ∧ Below w.heap.size w w' := by
  have hu := Tryd.underlying67
  have HL := Lib.hid hL
  have HS := Lib.hid hS
  clear hL hS
  go_enter Tryd.func36, Tryd.ntmps36
  go_wp2_with (first
    | (go_at_call 57; refine (impl_isReachLine.calls a true _ h).mono ?_; rintro e w1 ⟨rfl, hx⟩; have hb1 := below_step (below_alloc (Below.refl _ _) _) hx; have hrx := blk_below (blk_new w (.cells #[.bool o, .bool b, .bool l] 32 (0, 0))) hx; have c0 : w1.cell? ⟨w.heap.size, 0, none⟩ = some (.bool o) := (blk_cell hrx 0).trans rfl; have c1 : w1.cell? ⟨w.heap.size, 1, none⟩ = some (.bool b) := (blk_cell hrx 1).trans rfl; have c2 : w1.cell? ⟨w.heap.size, 2, none⟩ = some (.bool l) := (blk_cell hrx 2).trans rfl; clear hx)
    | (go_at_call 58; refine (impl_byRule.walk 100000 a o b l E _ hE).mono ?_; rintro e w2 ⟨v, rfl, hP, hpe, hy⟩; have hb2 := below_step hb1 hy; have hrx2 := blk_below hrx hy; have hEl := hpe.len; rw [← nodes_len] at hEl; obtain ⟨bm, v0, v2, v3, v4, rfl, hl, hm9, r0, r2, r3, r4, hne⟩ := hP; clear hpe hE; rw [hN] at hEl hm9 r0; obtain ⟨g0, k0, z0⟩ := R_form r0 hE0; obtain ⟨A2, n2, k2, z2⟩ := R_any r2; obtain ⟨A3, n3, k3, z3⟩ := R_any r3; obtain ⟨A4, n4, k4, z4⟩ := R_any r4; subst z0; subst z2; subst z3; subst z4; clear r2 r3 r4 hne hy c0 c1 c2 hrx hb1)
    | ((with_reducible refine gate_dst (N := 27) rfl ?_); obtain ⟨W3, hW3⟩ : ∃ W3, w2.alloc (.cells #[.slice (some ⟨g0, 0, none⟩) N.length k0, .map (some bm), .slice A2 n2 k2, .slice A3 n3 k3, .slice A4 n4 k4] 67) = W3 := ⟨_, rfl⟩; rw [hW3]; have hb23 : Below w2.heap.size w2 W3 := hW3 ▸ below_alloc (Below.refl _ _) _; have hx3 : W3.heap[w2.heap.size]? = some (.cells #[.slice (some ⟨g0, 0, none⟩) N.length k0, .map (some bm), .slice A2 n2 k2, .slice A3 n3 k3, .slice A4 n4 k4] 67 (0, 0)) := hW3 ▸ blk_new w2 _; have AX := Aside0.mk (show W3.heap[w2.heap.size]? = some (.cells #[.slice (some ⟨g0, 0, none⟩) N.length k0, .map (some bm), .slice A2 n2 k2, .slice A3 n3 k3, .slice A4 n4 k4] 67 (0, 0)) ∧ MapIs Tryd.prog 9 3 W3 bm N ∧ Kd.R Kd.string 9 W3 w1.heap.size T_ (.slice (some ⟨g0, 0, none⟩) N.length k0) N ∧ W3.heap[w.heap.size]? = some (.cells #[.bool o, .bool b, .bool l] 32 (0, 0)) from ⟨hx3, hm9.below hb23, Kd.R_below r0 hb23, blk_below hrx2 hb23⟩); have HB3 := Aside0.mk (below_step hb2 hb23); have e0 : W3.cell? ⟨w2.heap.size, 0, none⟩ = some (.slice (some ⟨g0, 0, none⟩) N.length k0) := (blk_cell hx3 0).trans rfl; clear hW3 hb23 hx3 hm9 r0 hrx2 hb2; refine Kd.S_make (Kd.slice 3 (Kd.int .i64)) (w0 := W3) W3.heap.size 65 rfl (N := 27) rfl 55 (.tmp 26) (.tmp 26) rfl (N.length : Int) rfl rfl Tryd.underlying55 (.slice none 0 0) 24 (by kernel_rfl) rfl (by decide) (by decide) ([] : List Int) (ok := T_) (okp := T_) ⟨_, rfl, Kd.R_nil _ _ _ _ _⟩ (fun _ hk => hk) trivial (by omega) (by rw [Int.toNat_natCast]; omega) (Below.refl _ _) (Nat.le_refl _) ?_; intro vb w4 hs4 hb4 hg4 hx4; rw [Int.toNat_natCast] at hs4; obtain ⟨g, cg, hzg, hgb, hgl, hgc⟩ := Kd.S_form hs4 (by rw [List.length_replicate]; omega); rw [List.length_replicate] at hzg; subst hzg; have e1 : w4.cell? ⟨w2.heap.size, 0, none⟩ = some (.slice (some ⟨g0, 0, none⟩) N.length k0) := (hb4.cell (World.block_lt_of_cell? _ _ e0)).trans e0; clear hx4 hg4 hgl hgc e0))
  generalize hpb : w2.heap.size = pb at *
  go_loopw [31] (fun x31 wr => ∃ (i : Nat) (L : List (List Int)), x31 = .int .i64 (i : Int) ∧ i ≤ N.length ∧ Hid (befB (fun s => impl_movesBy.f 2000 s o b l) N i (N.drop i) L = some LB) ∧ Aside0 (Below W3.heap.size W3 wr ∧ SB wr W3.heap.size T_ g N.length cg L)) (fun x31 _ => N.length - (RowKit.intOf x31).toNat)
  case atStart => exact ⟨0, _, rfl, Nat.zero_le _, HL, Aside0.mk ⟨hb4, hs4⟩⟩
  case round =>
    clear HL hb4 hs4 e1
    obtain ⟨i, L, rfl, hi, HP, HB⟩ := hrel
    by_cases hil : i < N.length
    · have hdec : decide ((i : Int) < (N.length : Int)) = true := decide_eq_true (by omega)
      have hp := HP.out
      rw [List.drop_eq_getElem_cons hil, befB] at hp
      obtain ⟨ms, hms, hp⟩ := Option.bind_eq_some_iff.mp hp
      by_cases hml : ms.length ≤ 1000000
      case neg => rw [if_neg hml] at hp; cases hp
      rw [if_pos hml] at hp
      obtain ⟨L2, hv, hp⟩ := Option.bind_eq_some_iff.mp hp
      have hx := R_scellW (Kd.R_below AX.out.2.2.1 HB.out.1) (i : Int) (by omega) (by omega)
      rw [Int.toNat_natCast] at hx
      have hrd : rdOf ByteArray.empty N (i : Int) = N[i] := by
        unfold rdOf
        rw [Int.toNat_natCast, List.getD_eq_getElem?_getD, List.getElem?_eq_getElem hil]
        rfl
      rw [hrd] at hx
      have HP2 := Lib.hid hp
      have HV := Lib.hid hv
      clear hp hrd HP hv
      generalize N[i] = x at *
      have hi0 : (0 : Int) ≤ (i : Int) := Int.natCast_nonneg _
      have hrx := blk_below AX.out.2.2.2 HB.out.1
      have c0 : wr.cell? ⟨w.heap.size, 0, none⟩ = some (.bool o) := (blk_cell hrx 0).trans rfl
      have c1 : wr.cell? ⟨w.heap.size, 1, none⟩ = some (.bool b) := (blk_cell hrx 1).trans rfl
      have c2 : wr.cell? ⟨w.heap.size, 2, none⟩ = some (.bool l) := (blk_cell hrx 2).trans rfl
      clear hrx
      go_wp2_with (first
        | (go_at_call 69; refine (impl_movesBy.calls 2000 x o b l ms _ hms).mono ?_; rintro e w5 ⟨v5, rfl, ho5, hb5⟩; obtain ⟨Am, cm, hzm⟩ := Kd.R_slice ho5; subst hzm; have HC5 := Aside0.mk (show Below W3.heap.size W3 w5 ∧ SB w5 W3.heap.size T_ g N.length cg L ∧ Kd.R k83 83 w5 W3.heap.size T_ (.slice Am ms.length cm) ms from ⟨below_step HB.out.1 hb5, Kd.S_below HB.out.2 hb5, Kd.R_lower ho5 HB.out.1.size⟩); clear HB c0 c1 c2 hx ho5 hb5 hms))
      go_loopw [40] (fun x40 wq => ∃ (j : Nat) (L' : List (List Int)), x40 = .int .i64 (j : Int) ∧ j ≤ ms.length ∧ Hid (visB N x i (ms.drop j) L' = some L2) ∧ Aside0 (Below W3.heap.size W3 wq ∧ SB wq W3.heap.size T_ g N.length cg L' ∧ Kd.R k83 83 wq W3.heap.size T_ (.slice Am ms.length cm) ms)) (fun x40 _ => ms.length - (RowKit.intOf x40).toNat)
      case atStart => exact ⟨0, L, rfl, Nat.zero_le _, HV, HC5⟩
      case round =>
        clear HV HC5
        obtain ⟨j, L', rfl, hj, HV, HC⟩ := hrel
        have hv := HV.out
        by_cases hjl : j < ms.length
        · have hdec : decide ((j : Int) < (ms.length : Int)) = true := decide_eq_true (by omega)
          obtain ⟨gm, cm', hvm⟩ := R_form HC.out.2.2 (by omega)
          injection hvm with hA _ hcm
          subst hA
          subst hcm
          obtain ⟨ad, ead, hx0, hx1⟩ := at_T83 (Kd.R_reads' HC.out.2.2).2.2 (j : Int) (by omega) (by omega)
          have hd : ms.drop j = rd_T83 ms (j : Int) :: ms.drop (j + 1) := by
            rw [List.drop_eq_getElem_cons hjl]
            unfold rd_T83
            rw [Int.toNat_natCast, List.getD_eq_getElem?_getD, List.getElem?_eq_getElem hjl]
            rfl
          rw [hd] at hv
          rw [Int.toNat_natCast] at hx0 hx1
          clear hd HV
          cases ead
          generalize rd_T83 ms (j : Int) = m at *
          obtain ⟨f, t⟩ := m
          replace hx0 : wr.cell? ⟨gm, j * 2, none⟩ = some (.int .i64 f) := by rw [Addr.add_lit, Nat.zero_add] at hx0; exact hx0
          replace hx1 : wr.cell? ⟨gm, j * 2 + 1, none⟩ = some (.int .i64 t) := by rw [Addr.add_lit, Nat.zero_add] at hx1; exact hx1
          simp only [visB] at hv
          obtain ⟨y, hy, hv⟩ := Option.bind_eq_some_iff.mp hv
          by_cases hys : y.size ≤ 1000 ∧ inN y N = true ∧ (L'.getD (ixW y N) []).length < 1000000000
          case neg => rw [if_neg hys] at hv; cases hv
          rw [if_pos hys] at hv
          obtain ⟨hy1, hyN, hyl⟩ := hys
          have hiy := ixW_at (inN_iff.1 hyN)
          have hql : ixW y N < N.length := (List.getElem?_eq_some_iff.1 hiy).1
          have HV2 := Lib.hid hv
          clear hv hyN
          generalize ixW y N = q at *
          have hp0 : (0 : Int) ≤ (j : Int) := Int.natCast_nonneg _
          have hq0 : (0 : Int) ≤ (q : Int) := Int.natCast_nonneg _
          have hq1 : (q : Int) < (N.length : Int) := by omega
          go_wp2_with fail
          have hb4 : Below wr.heap.size wr (wr.alloc (.cells #[.int .i64 f, .int .i64 t] 83 (0, 0))).drew := below_drew1 (below_alloc (Below.refl _ _) _)
          have hbx : (wr.alloc (.cells #[.int .i64 f, .int .i64 t] 83 (0, 0))).drew.heap[wr.heap.size]? = some (.cells #[.int .i64 f, .int .i64 t] 83 (0, 0)) := blk_drew (blk_new wr _)
          have hB4 := below_step HC.out.1 hb4
          have hS4 := Kd.S_below HC.out.2.1 hb4
          have hR4 := Kd.R_below HC.out.2.2 hb4
          have hp4 : (wr.alloc (.cells #[.int .i64 f, .int .i64 t] 83 (0, 0))).drew.cell? ⟨pb, 1, none⟩ = some (.map (some bm)) := (blk_cell (blk_below AX.out.1 hB4) 1).trans rfl
          have hk4 := (AX.out.2.1.below hB4).look1 (T := 64) Tryd.underlying9 Tryd.underlying64 Tryd.underlying3 (by kernel_rfl) y (by unfold maxLen; omega) _ hiy
          clear hx0 hx1 hb4 HC
          refine start_ (n := 7) (S := fun w' => w'.cell? ⟨pb, 1, none⟩ = some (.map (some bm)) ∧ w'.cell? ⟨wr.heap.size, 0, none⟩ = some (.int .i64 f) ∧ w'.cell? ⟨wr.heap.size, 1, none⟩ = some (.int .i64 t) ∧ (Instr.lookup 64 (.map (some bm)) (.string y) false).run Tryd.prog w' = .ok (.int .i64 (q : Int)) w') (ds := []) #[false, false, false, false, false, false, false] (by kernel_rfl) rfl rfl ⟨hp4, (blk_cell hbx 0).trans rfl, (blk_cell hbx 1).trans rfl, hk4⟩ (fun hHeld => ?_)
          generalize (wr.alloc (.cells #[.int .i64 f, .int .i64 t] 83 (0, 0))).drew = W4 at *
          refine pure_ (i := 0) (N := some 44) (v := ?_) (a' := ?_) #[true, false, false, false, false, false, false] rfl rfl (by kernel_rfl) (fun _ _ _ h => h) (Or.inl ⟨by rfl, ?_⟩) ?_ ?_
          rotate_left
          · intro w'
            go_simp
            with_reducible rfl
          rotate_left
          · simp only [Act.put, List.setIfInBounds_toArray, List.set_cons_zero, List.set_cons_succ, i64_w, i32_w]
            rfl
          refine take_ (i := 1) (N := some 45) (v := ?_) (a' := ?_) #[true, true, false, false, false, false, false] rfl rfl (by kernel_rfl) (fun _ _ _ h => h) (Or.inl ⟨by rfl, ?_⟩) hHeld ?_ ?_
          rotate_left
          · rintro w' ⟨s0, s1, s2, s3⟩
            go_simp
            with_reducible rfl
          rotate_left
          · simp only [Act.put, List.setIfInBounds_toArray, List.set_cons_zero, List.set_cons_succ, i64_w, i32_w]
            rfl
          refine pure_ (i := 2) (N := some 46) (v := ?_) (a' := ?_) #[true, true, true, false, false, false, false] rfl rfl (by kernel_rfl) (fun _ _ _ h => h) (Or.inl ⟨by rfl, ?_⟩) ?_ ?_
          rotate_left
          · intro w'
            go_simp
            with_reducible rfl
          rotate_left
          · simp only [Act.put, List.setIfInBounds_toArray, List.set_cons_zero, List.set_cons_succ, i64_w, i32_w]
            rfl
          refine take_ (i := 3) (N := some 47) (v := ?_) (a' := ?_) #[true, true, true, true, false, false, false] rfl rfl (by kernel_rfl) (fun _ _ _ h => h) (Or.inl ⟨by rfl, ?_⟩) hHeld ?_ ?_
          rotate_left
          · rintro w' ⟨s0, s1, s2, s3⟩
            go_simp
            with_reducible rfl
          rotate_left
          · simp only [Act.put, List.setIfInBounds_toArray, List.set_cons_zero, List.set_cons_succ, i64_w, i32_w]
            rfl
          refine one_ (i := 4) (N := some 48) #[true, true, true, true, true, false, false] rfl rfl (by kernel_rfl) (by decide) (fun K hK => ?_)
          refine goes_ Tryd.func66 (by kernel_rfl) rfl #[.string x, .agg #[.int .i64 f, .int .i64 t]] (by rfl) rfl rfl (by (try simp only [List.map_toArray, List.map_cons, List.map_nil]); first | done | rfl) ?_
          with_reducible refine (impl_made.calls x f t y _ hy).mono ?_
          rintro e1 W5 ⟨rfl, hb5⟩
          refine ⟨_, rfl, ?_⟩
          have hbx5 := blk_below hbx hb5
          have hB5 := below_step hB4 hb5
          have hS5 := Kd.S_below hS4 hb5
          have hR5 := Kd.R_below hR4 hb5
          have hp5 : W5.cell? ⟨pb, 1, none⟩ = some (.map (some bm)) := (blk_cell (blk_below AX.out.1 hB5) 1).trans rfl
          have hk5 := (AX.out.2.1.below hB5).look1 (T := 64) Tryd.underlying9 Tryd.underlying64 Tryd.underlying3 (by kernel_rfl) y (by unfold maxLen; omega) _ hiy
          clear hbx hB4 hS4 hR4 hp4 hk4 hb5 hHeld
          refine hK.out _ _ ⟨hp5, (blk_cell hbx5 0).trans rfl, (blk_cell hbx5 1).trans rfl, hk5⟩ (fun hHeld => ?_)
          clear hK K
          refine norm_ (a' := ?_) ?_ ?_
          rotate_left
          · show Act.put _ (some 48) _ = _
            simp only [Act.put, List.setIfInBounds_toArray, List.set_cons_zero, List.set_cons_succ, i64_w, i32_w]
            rfl
          refine take_ (i := 5) (N := some 49) (v := ?_) (a' := ?_) #[true, true, true, true, true, true, false] rfl rfl (by kernel_rfl) (fun _ _ _ h => h) (Or.inl ⟨by rfl, ?_⟩) hHeld ?_ ?_
          rotate_left
          · rintro w' ⟨s0, s1, s2, s3⟩
            go_simp
            with_reducible rfl
          rotate_left
          · simp only [Act.put, List.setIfInBounds_toArray, List.set_cons_zero, List.set_cons_succ, i64_w, i32_w]
            rfl
          refine pure_ (i := 6) (N := some 12) (v := ?_) (a' := ?_) #[true, true, true, true, true, true, true] rfl rfl (by kernel_rfl) (fun _ _ _ h => h) (Or.inl ⟨by rfl, ?_⟩) ?_ ?_
          rotate_left
          · intro w'
            go_simp
            with_reducible rfl
          rotate_left
          · simp only [Act.put, List.setIfInBounds_toArray, List.set_cons_zero, List.set_cons_succ, i64_w, i32_w]
            rfl
          refine done_ (by kernel_rfl) ?_
          obtain ⟨oki, cs, hcl, ⟨vr, hcs, hr⟩, hcc, hoki, hH⟩ := Kd.S_lend hS5 [] (q : Int) hq0 hq1
          rw [Int.toNat_natCast] at hr
          subst hcs
          have hcq : W5.cell? ⟨g, q, none⟩ = some vr := by
            have h9 := hcc 0 vr rfl
            rw [Int.toNat_natCast, show q * (Kd.slice 3 (Kd.int .i64)).sz + 0 = q from Nat.mul_one q] at h9
            simpa using h9
          obtain ⟨Ar, cr, hzr⟩ := Kd.R_slice hr
          generalize hrow : L'.getD q [] = row at *
          subst hzr
          have hH5 := Kd.H_widen hH
          have hr5 := Kd.R_mono hr (ok' := fun k => oki k ∨ T_ k ∧ W5.heap.size ≤ k) (fun _ hk => Or.inl hk)
          have hne6 : ∀ k, (Value.slice (some ⟨gm, 0, none⟩) ms.length cm).ownBlock = some k → some k ≠ (Value.slice Ar row.length cr).ownBlock := fun k hk => by
            obtain ⟨cells, hc⟩ := Kd.R_typed hR5 k hk
            exact Kd.R_ne hr5 hc (by decide)
          have hne7 : ∀ k, (Value.slice (some ⟨gm, 0, none⟩) ms.length cm).ownBlock = some k → some k ≠ some g := fun k hk => by
            obtain ⟨cells, hc⟩ := Kd.R_typed hR5 k hk
            exact Kd.S_ne hS5 hc (by decide)
          have HQ := Aside0.mk (And.intro hH5 (And.intro hr5 (And.intro hR5 (And.intro hne6 (And.intro hne7 hB5)))))
          clear hHeld hbx5 hB5 hS5 hR5 hp5 hk5 hH hcc hcl hr hoki hH5 hr5 hne6 hne7 hy hiy
          go_wp2_with (first
            | ((with_reducible refine gate_builtin (b := .append) (xs := #[.tmp 55, .tmp 57]) rfl ?_); at_builtin; refine Kd.R_append (Kd.int .i64) (w0 := W3) W3.heap.size rfl (.tmp 55) (.tmp 57) 65 3 (.int .i64 0) 8 rfl Tryd.underlying65 (by kernel_rfl) rfl (by decide) (by decide) (.slice Ar row.length cr) row (i : Int) [.int .i64 (i : Int)] (fun k => oki k ∨ T_ k ∧ W5.heap.size ≤ k) (fun _ => False) rfl rfl (by exact rfl) (fun _ hk => hk.elim) (fun k hk => Or.inr ⟨trivial, hk⟩) HQ.out.2.1 HQ.out.2.2.2.2.2 HQ.out.2.2.2.2.2.size (by omega) ?_; intro v6 w6 ho6 hb6 hg6 hat6; clear hat6; obtain ⟨A6, n6, k6, z6⟩ := R_any ho6; subst z6)
            | ((with_reducible refine gate_store (t := 65) (p := 59) (v := .tmp 58) rfl ?_); go_must (refine Kd.H_store (Kd.slice 3 (Kd.int .i64)) (w0 := W3) W3.heap.size rfl rfl 65 (.tmp 59) (.tmp 58) rfl 65 (q : Int) 0 L' (row ++ [(i : Int)]) (.slice A6 n6 k6) [(.slice A6 n6 k6)] [.slice Ar row.length cr] T_ _ (fun k => oki k ∨ T_ k ∧ W5.heap.size ≤ k) rfl (by rw [Int.toNat_natCast]; simp [Kd.slice]) rfl (Kd.R_val ho6).1 (by kernel_rfl) (fun u hu => by rw [List.mem_singleton.1 hu]; exact (Kd.R_val ho6).2) (Kd.H_grown HQ.out.1 hg6 (fun k hk => HQ.out.2.1.1 k hk)) hq0 hq1 (show 0 + 1 ≤ 1 from Nat.le_refl _) ⟨(.slice A6 n6 k6), rfl, ho6⟩ (fun _ hk => hk) hb6 ?_); intro w7 hs7 hb7 hg7; rw [Int.toNat_natCast] at hs7; have hR7 := R_grow flat_m (R_grow flat_m HQ.out.2.2.1 hg6 HQ.out.2.2.2.1) hg7 HQ.out.2.2.2.2.1))
          exact ⟨⟨j + 1, _, rfl, by omega, HV2, Aside0.mk ⟨hb7, hs7, hR7⟩⟩, by simp [RowKit.intOf]; omega⟩
        · obtain rfl : j = ms.length := by omega
          have hdec : decide ((ms.length : Int) < (ms.length : Int)) = false := decide_eq_false (by omega)
          rw [List.drop_length, visB] at hv
          obtain rfl := Option.some.inj hv
          clear hv HV
          go_wp2
          exact ⟨⟨i + 1, _, rfl, by omega, HP2, Aside0.mk ⟨HC.out.1, HC.out.2.1⟩⟩, by simp [RowKit.intOf]; omega⟩
    · obtain rfl : i = N.length := by omega
      have hdec : decide ((N.length : Int) < (N.length : Int)) = false := decide_eq_false (by omega)
      have hp := HP.out
      rw [List.drop_length, befB] at hp
      obtain rfl := Option.some.inj hp
      clear hp HP
      have e0r : wr.cell? ⟨pb, 0, none⟩ = some (.slice (some ⟨g0, 0, none⟩) N.length k0) := (blk_cell (blk_below AX.out.1 HB.out.1) 0).trans rfl
      have hn0 : (0 : Int) < (N.length : Int) := by omega
      have hn1 : decide ((0 : Int) < (N.length : Int)) = true := decide_eq_true (by omega)
      go_wp2_with (first
        | ((with_reducible refine gate_dst (N := 65) rfl ?_); go_must (refine Kd.R_make (w0 := W3) Kd.bool W3.heap.size 4 rfl (N := 65) rfl 87 (.tmp 64) (.tmp 64) rfl (N.length : Int) rfl rfl Tryd.underlying87 (.bool false) 1 (by kernel_rfl) rfl (by decide) (by decide) false (ok := T_) (okp := T_) rfl (fun _ hk => hk) trivial (by omega) (by rw [Int.toNat_natCast]; omega) HB.out.1 HB.out.1.size ?_; intro vs w5 hos hbs hgs hxs; rw [Int.toNat_natCast] at hos; obtain ⟨gs, cs, hzs⟩ := R_form hos (by rw [List.length_replicate]; omega); rw [List.length_replicate] at hzs; subst hzs; have hSw := Kd.S_grown HB.out.2 hgs (fun _ _ => by simp); have hb6 : Below W3.heap.size W3 (w5.alloc (.cells #[.int .i64 0] 3)) := below_alloc hbs _; have hS6 := Kd.S_elder' (v := .slice (some ⟨w5.heap.size, 0, none⟩) 1 1) hSw (fun k hk => by cases hk; exact Nat.le_refl _) (below_alloc (Below.refl w5.heap.size w5) (.cells #[.int .i64 0] 3)); have hs6 := Kd.R_below hos (below_alloc (Below.refl w5.heap.size w5) (.cells #[.int .i64 0] 3)); have hl6 : Kd.R (Kd.int .i64) 3 (w5.alloc (.cells #[.int .i64 0] 3)) W3.heap.size T_ (.slice (some ⟨w5.heap.size, 0, none⟩) 1 1) [0] := R_one (Kd.int .i64) (cs := [.int .i64 0]) (blk_new w5 _) hbs.size (fun _ => rfl); obtain ⟨hcc, hff⟩ := Kd.R_celln (enc := Value.bool) (h1 := fun _ => rfl) false hs6 0 (by omega) (by omega); rw [Int.toNat_zero] at hcc hff; have hpt : Kd.R Kd.bool 4 ((w5.alloc (.cells #[.int .i64 0] 3)).setCell ⟨gs, 0, none⟩ (.bool true)) W3.heap.size T_ (.slice (some ⟨gs, 0, none⟩) N.length cs) ((List.replicate N.length false).set 0 true) := Kd.R_putn (enc := Value.bool) (h1 := fun _ => rfl) hs6 0 true; obtain ⟨cells, hbk⟩ := Kd.R_typed hs6 gs rfl; have HW := Aside0.mk (And.intro (hb6.setCell (p := ⟨gs, 0, none⟩) (Kd.R_base hs6 gs rfl) (.bool true)) (And.intro (Kd.S_set hS6 hbk (by decide) 0 (.bool true)) (And.intro hpt (Kd.R_set hl6 hbk (by decide) 0 (.bool true)))))); clear hxs hgs hos hSw hb6 hS6 hs6 hl6 hpt hbk HB e0r))
      skip
      generalize (w5.alloc (.cells #[.int .i64 0] 3)).setCell ⟨gs, 0, none⟩ (.bool true) = W7 at *
      clear hcc hff hbs
      go_loopg [14, 15] K (fun kq x14 x15 wr => ∃ (k : Nat) (s : List Bool) (l : List Int) (A : Option Addr) (n c : Nat), x14 = .slice A n c ∧ x15 = .int .i64 (k : Int) ∧ k ≤ l.length ∧ l.length ≤ 1000000 ∧ s.length = N.length ∧ Hid (outB L kq k s l = some ls) ∧ Aside0 (Below W3.heap.size W3 wr ∧ Kd.S (Kd.slice 3 (Kd.int .i64)) 65 wr W3.heap.size (fun q => T_ q ∧ some q ≠ (Value.slice A n c).ownBlock) (.slice (some ⟨g, 0, none⟩) N.length cg) L ∧ Kd.R Kd.bool 4 wr W3.heap.size T_ (.slice (some ⟨gs, 0, none⟩) N.length cs) s ∧ Kd.R (Kd.int .i64) 3 wr W3.heap.size T_ (.slice A n c) l))
      case atStart => exact ⟨0, _, [0], some ⟨w5.heap.size, 0, none⟩, 1, 1, rfl, rfl, by simp, by simp, by simp, HS, HW⟩
      case round =>
        clear HS HW
        obtain ⟨k, s, l, A, n, c, rfl, rfl, hk, hlm, hsl, HO, HB⟩ := hrel
        obtain rfl : n = l.length := (Kd.R_reads' HB.out.2.2.2).1
        have HLn := Aside0.mk (show N.length = L.length from (Kd.S_reads' HB.out.2.1).1)
        have ho := HO.out
        cases gk with
        | zero => cases ho
        | succ g' =>
          rw [outB] at ho
          cases hj : l[k]? with
          | none =>
            rw [hj] at ho
            obtain rfl := Option.some.inj ho
            have hkl := List.getElem?_eq_none_iff.1 hj
            have hdec : decide ((k : Int) < (l.length : Int)) = false := decide_eq_false (by omega)
            have e0r : wr.cell? ⟨pb, 0, none⟩ = some (.slice (some ⟨g0, 0, none⟩) N.length k0) := (blk_cell (blk_below AX.out.1 HB.out.1) 0).trans rfl
            clear ho HO
            go_wp2
            go_ret2
            exact ⟨rfl, below_step HB3.out HB.out.1⟩
          | some j =>
            rw [hj] at ho
            simp only at ho
            by_cases hjb : (0 ≤ j ∧ j < (L.length : Int)) ∧ (L.getD j.toNat []).length ≤ 1000000000
            case neg => rw [if_neg hjb] at ho; cases ho
            rw [if_pos hjb] at ho
            obtain ⟨⟨hja, hjc⟩, hjr⟩ := hjb
            obtain ⟨q, hq, ho2⟩ := Option.bind_eq_some_iff.mp ho
            clear ho
            have hkl := (List.getElem?_eq_some_iff.1 hj).1
            have hdec : decide ((k : Int) < (l.length : Int)) = true := decide_eq_true (by omega)
            have hk0 : (0 : Int) ≤ (k : Int) := Int.natCast_nonneg _
            have hk1 : (k : Int) < (l.length : Int) := by omega
            obtain ⟨gl, cl, hAl⟩ := R_form HB.out.2.2.2 (by omega)
            injection hAl with hA _ hcm
            subst hA
            subst hcm
            have hck := R_icell HB.out.2.2.2 (k : Int) (by omega) (by omega)
            have hrj : rdOf 0 l (k : Int) = j := by
              unfold rdOf
              rw [Int.toNat_natCast, List.getD_eq_getElem?_getD, hj]
              rfl
            rw [Int.toNat_natCast, hrj] at hck
            obtain ⟨jn, rfl⟩ : ∃ m : Nat, j = (m : Int) := ⟨j.toNat, by omega⟩
            rw [Int.toNat_natCast] at hq hjr
            have hj1 : (jn : Int) < (N.length : Int) := by have := HLn.out; omega
            obtain ⟨c1, hcl, ⟨vr, hcs, hr⟩, hcc⟩ := Kd.S_get HB.out.2.1 [] (jn : Int) (by omega) (by omega)
            subst hcs
            rw [Int.toNat_natCast] at hr
            have hcq : wr.cell? ⟨g, jn, none⟩ = some vr := by
              have h9 := hcc 0 vr rfl
              rw [Int.toNat_natCast, show jn * (Kd.slice 3 (Kd.int .i64)).sz + 0 = jn from Nat.mul_one jn, Addr.add_lit, Nat.zero_add] at h9
              exact h9
            generalize L.getD jn [] = row at *
            obtain ⟨Ar, cr, hzr⟩ := Kd.R_slice hr
            subst hzr
            have HO2 := Lib.hid ho2
            have HI := Lib.hid hq
            have HC := Aside0.mk (And.intro HB.out.1 (And.intro HB.out.2.1 (And.intro HB.out.2.2.1 (And.intro HB.out.2.2.2 (Kd.R_mono (ok' := fun z => T_ z ∧ some z ≠ (Value.slice (some ⟨gl, 0, none⟩) l.length c).ownBlock) hr (fun _ hz => hz.1))))))
            have hj0 : (0 : Int) ≤ (jn : Int) := Int.natCast_nonneg _
            have hj2 : decide ((jn : Int) < (N.length : Int)) = true := decide_eq_true hj1
            clear ho2 HO hq hr hcc hcl hrj hj
            go_wp2
            go_loopw [14, 83] (fun x14 x83 wz => ∃ (i : Nat) (s' : List Bool) (l' : List Int) (A' : Option Addr) (n' c' : Nat), x14 = .slice A' n' c' ∧ x83 = .int .i64 (i : Int) ∧ i ≤ row.length ∧ s'.length = N.length ∧ l'.length ≤ 1000000 ∧ k < l'.length ∧ Hid (innB (row.drop i) s' l' = some q) ∧ Aside0 (Below W3.heap.size W3 wz ∧ Kd.S (Kd.slice 3 (Kd.int .i64)) 65 wz W3.heap.size (fun q => T_ q ∧ some q ≠ (Value.slice A' n' c').ownBlock) (.slice (some ⟨g, 0, none⟩) N.length cg) L ∧ Kd.R Kd.bool 4 wz W3.heap.size T_ (.slice (some ⟨gs, 0, none⟩) N.length cs) s' ∧ Kd.R (Kd.int .i64) 3 wz W3.heap.size T_ (.slice A' n' c') l' ∧ Kd.R (Kd.int .i64) 3 wz W3.heap.size (fun q => T_ q ∧ some q ≠ (Value.slice A' n' c').ownBlock) (.slice Ar row.length cr) row)) (fun _ x83 _ => row.length - (RowKit.intOf x83).toNat)
            case atStart => exact ⟨0, s, l, some ⟨gl, 0, none⟩, l.length, c, rfl, rfl, Nat.zero_le _, hsl, hlm, hkl, HI, HC⟩
            case round =>
              clear HI HC HB hck hcq hdec
              obtain ⟨i, s', l', A', n', c', rfl, rfl, hi, hsl', hlm', hkl', HI, HC⟩ := hrel
              obtain rfl : n' = l'.length := (Kd.R_reads' HC.out.2.2.2.1).1
              have hq := HI.out
              by_cases hir : i < row.length
              · have hdec : decide ((i : Int) < (row.length : Int)) = true := decide_eq_true (by omega)
                have hi0 : (0 : Int) ≤ (i : Int) := Int.natCast_nonneg _
                obtain ⟨gr, cr', hAr⟩ := R_form HC.out.2.2.2.2 (by omega)
                injection hAr with hA _ hcm
                subst hA
                subst hcm
                have hcx := R_icell HC.out.2.2.2.2 (i : Int) (by omega) (by omega)
                rw [Int.toNat_natCast] at hcx
                have hdr : row.drop i = rdOf 0 row (i : Int) :: row.drop (i + 1) := by
                  rw [List.drop_eq_getElem_cons hir]
                  unfold rdOf
                  rw [Int.toNat_natCast, List.getD_eq_getElem?_getD, List.getElem?_eq_getElem hir]
                  rfl
                rw [hdr, innB] at hq
                clear hdr HI
                generalize rdOf 0 row (i : Int) = x at *
                by_cases hxb : 0 ≤ x ∧ x < (s'.length : Int)
                case neg => rw [if_neg hxb] at hq; cases hq
                rw [if_pos hxb] at hq
                obtain ⟨xn, rfl⟩ : ∃ m : Nat, x = (m : Int) := ⟨x.toNat, by omega⟩
                rw [Int.toNat_natCast] at hq
                have hx0 : (0 : Int) ≤ (xn : Int) := Int.natCast_nonneg _
                have hx1 : (xn : Int) < (N.length : Int) := by omega
                have hx2 : decide ((xn : Int) < (N.length : Int)) = true := decide_eq_true hx1
                obtain ⟨hcc, hff⟩ := Kd.R_celln (enc := Value.bool) (h1 := fun _ => rfl) false HC.out.2.2.1 (xn : Int) (by omega) (by omega)
                have hrd : rdOf false s' (xn : Int) = s'.getD xn false := by
                  unfold rdOf
                  rw [Int.toNat_natCast]
                rw [hrd] at hcc
                rw [Int.toNat_natCast] at hcc hff
                clear hxb hrd
                cases hsx : s'.getD xn false with
                | true =>
                  rw [hsx, if_pos rfl] at hq
                  rw [hsx] at hcc
                  have HI2 := Lib.hid hq
                  clear hq
                  go_wp2
                  exact ⟨⟨i + 1, s', l', A', l'.length, c', rfl, rfl, by omega, hsl', hlm', hkl', HI2, HC⟩, by simp [RowKit.intOf]; omega⟩
                | false =>
                  rw [hsx, if_neg (by decide)] at hq
                  rw [hsx] at hcc
                  by_cases hll : l'.length < 1000000
                  case neg => rw [if_neg hll] at hq; cases hq
                  rw [if_pos hll] at hq
                  have HI2 := Lib.hid hq
                  have hpt := Kd.R_putn (enc := Value.bool) (h1 := fun _ => rfl) HC.out.2.2.1 (xn : Int) true
                  rw [Int.toNat_natCast] at hpt
                  obtain ⟨cells, hbk⟩ := Kd.R_typed HC.out.2.2.1 gs rfl
                  have HD := Aside0.mk (And.intro (HC.out.1.setCell (p := ⟨gs, xn, none⟩) (Kd.R_base HC.out.2.2.1 gs rfl) (.bool true)) (And.intro (Kd.S_set HC.out.2.1 hbk (by decide) xn (.bool true)) (And.intro hpt (And.intro (Kd.R_set HC.out.2.2.2.1 hbk (by decide) xn (.bool true)) (Kd.R_set HC.out.2.2.2.2 hbk (by decide) xn (.bool true))))))
                  clear hq hpt HC hbk
                  go_wp2_with (first
                    | ((with_reducible refine gate_builtin (b := .append) (xs := #[.tmp 95, .tmp 97]) rfl ?_); at_builtin; go_must (refine Kd.R_append (Kd.int .i64) (w0 := W3) W3.heap.size rfl (.tmp 95) (.tmp 97) 65 3 (.int .i64 0) 8 rfl Tryd.underlying65 (by kernel_rfl) rfl (by decide) (by decide) (.slice A' l'.length c') l' (xn : Int) [.int .i64 (xn : Int)] T_ (fun _ => False) rfl (by rw [show (wr.setCell ⟨gs, xn, none⟩ (.bool true)).heap.size = wr.heap.size from by simp]; rfl) (by exact rfl) (fun _ hk => hk.elim) (fun _ _ => trivial) HD.out.2.2.2.1 HD.out.1 HD.out.1.size (by omega) ?_); intro v6 w6 ho6 hb6 hg6 hat6; go_must (have hS6 := Kd.S_after HD.out.2.1 hg6 hat6; have hR6 := Kd.R_after HD.out.2.2.2.2 hg6 hat6; have hs6 := Kd.R_over HD.out.2.2.1 HD.out.2.2.2.1 (by decide) hg6; obtain ⟨A6, n6, k6, z6⟩ := R_any ho6; subst z6)))
                  exact ⟨⟨i + 1, _, _, A6, n6, k6, rfl, rfl, by omega, by rw [List.length_set]; exact hsl', by simp; omega, by simp; omega, HI2, Aside0.mk ⟨hb6, hS6, hs6, ho6, hR6⟩⟩, by simp [RowKit.intOf]; omega⟩
              · obtain rfl : i = row.length := by omega
                have hdec : decide ((row.length : Int) < (row.length : Int)) = false := decide_eq_false (by omega)
                rw [List.drop_length, innB] at hq
                obtain rfl := Option.some.inj hq
                clear hq HI
                go_wp2
                go_roundg g'
                case measure => omega
                case rel => exact ⟨k + 1, s', l', A', l'.length, c', rfl, rfl, by omega, hlm', hsl', HO2, Aside0.mk ⟨HC.out.1, HC.out.2.1, HC.out.2.2.1, HC.out.2.2.2.1⟩⟩
end
def impl_BothWays.f (a0 : ByteArray) (a1_0 a1_1 a1_2 : Bool) : Option (Bool × Bool) := (impl_isReachLine.f a0).bind fun r => if r = true then ((byRuleO 100000 a0 a1_0 a1_1 a1_2).bind fun E => if 0 < (Bfs.nodes E).length then ((befB (fun s => impl_movesBy.f 2000 s a1_0 a1_1 a1_2) (Bfs.nodes E) 0 (Bfs.nodes E) (List.replicate (Bfs.nodes E).length [])).bind fun LB => (outB LB 100000 0 ((List.replicate (Bfs.nodes E).length false).set 0 true) [0]).bind fun ls => some (((ls.length : Int) == ((Bfs.nodes E).length : Int)), true)) else none) else some (false, false)
theorem impl_BothWays.calls (a0 : ByteArray) (a1_0 a1_1 a1_2 : Bool) (r1 r2 : Bool) (w : World) (h : impl_BothWays.f a0 a1_0 a1_1 a1_2 = some (r1, r2)) :
    Calls Tryd.prog 36 #[.string a0, .agg #[.bool a1_0, .bool a1_1, .bool a1_2]] w fun e w' => e = .returned (.tuple #[.bool r1, .bool r2]) ∧ Below w.heap.size w w' := by
  unfold impl_BothWays.f at h
  obtain ⟨r, hr, h⟩ := Option.bind_eq_some_iff.mp h
  cases r with
  | false =>
    rw [if_neg (by decide)] at h
    cases h
    exact impl_BothWays.no_ a0 _ _ _ w hr
  | true =>
    rw [if_pos rfl] at h
    obtain ⟨E, hE, h⟩ := Option.bind_eq_some_iff.mp h
    by_cases hp : 0 < (Bfs.nodes E).length
    case neg => rw [if_neg hp] at h; cases h
    rw [if_pos hp] at h
    obtain ⟨LB, hL, h⟩ := Option.bind_eq_some_iff.mp h
    obtain ⟨ls, hl, h⟩ := Option.bind_eq_some_iff.mp h
    cases h
    exact impl_BothWays.walk 100000 a0 _ _ _ E _ LB ls w hr hE rfl hp hL hl

end Go.Proofs.YtjgijaocinpkhaaDoor.XT
