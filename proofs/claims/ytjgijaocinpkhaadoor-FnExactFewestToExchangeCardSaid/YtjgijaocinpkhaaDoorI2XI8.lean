/- The Lean functions that the Go functions of this seat compute, each with the proof that the Go function computes it, for every input (laws: FnExactFewestToExchange, FnExactShortestByRule). Conditions: none beyond those that each theorem names. Written by a program of this session over the kit's printer. -/
import Derived.Test.YtjgijaocinpkhaaDoorI2XI0
import Derived.Test.YtjgijaocinpkhaaDoorI2XI1
import Derived.Test.YtjgijaocinpkhaaDoorI2XI2
import Derived.Test.YtjgijaocinpkhaaDoorI2XI6
import Derived.Test.YtjgijaocinpkhaaDoorI2XI7
namespace Go.Proofs.YtjgijaocinpkhaaDoor.XI
open Go.RowKit Go.Proofs.YtjgijaocinpkhaaDoorW.PrintWords Go.Proofs.YtjgijaocinpkhaaDoorW.PrintLast Go.Proofs.YtjgijaocinpkhaaDoorW.PrintMore
attribute [local go_sem] max2_int min2_int max_two min_two max_three min_three max_four min_four   -- for this text's walks alone
attribute [local go_sem] Lib.run_min_strs Go.Proofs.YtjgijaocinpkhaaDoorXW.run_min2_strs Go.Proofs.YtjgijaocinpkhaaDoorXW.run_int_string
set_option linter.unusedVariables false
set_option linter.unusedSimpArgs false

/-! ### impl_movesBy: function 69 -/
mutual
def impl_movesBy.l0 : Nat → ByteArray → List (S83) → Int → Int → Bool → Bool → Bool → Option ((List (S83)))
  | 0, _, _, _, _, _, _, _ => none
  | k + 1, x0, x5, x14, x15, x159000, x159001, x159002 => if x15 < x14 then ((some (([(-1), 1] : List Int) : List Int)).bind fun y162 => (impl_movesBy.l1 k x0 x5 x15 x14 x15 y162 (y162.length : Int) 0 x159000 x159001 x159002)) else (some x5)
def impl_movesBy.l1 : Nat → ByteArray → List (S83) → Int → Int → Int → List Int → Int → Int → Bool → Bool → Bool → Option ((List (S83)))
  | 0, _, _, _, _, _, _, _, _, _, _, _ => none
  | k + 1, x0, x5, x6, x14, x15, x18, x19, x20, x159000, x159001, x159002 => if x20 < x19 then (if 0 ≤ x20 then (if x20 < (x18.length : Int) then (if 0 ≤ x6 then (if x6 < (x0.size : Int) then ((impl_stepOf.f (bt x0 x6)).bind fun t166 => (if t166 = 0 then (impl_movesBy.j2 k x0 x5 x6 (rd x18 x20) x14 x15 x18 x19 x20 true x159000 x159001 x159002) else (if t166 = (rd x18 x20) then (impl_movesBy.j2 k x0 x5 x6 (rd x18 x20) x14 x15 x18 x19 x20 false x159000 x159001 x159002) else (impl_movesBy.j2 k x0 x5 x6 (rd x18 x20) x14 x15 x18 x19 x20 (!x159001) x159000 x159001 x159002)))) else (none)) else (none)) else (none)) else (none)) else (impl_movesBy.l0 k x0 x5 x14 (wrap64 (x15 + 1)) x159000 x159001 x159002)
def impl_movesBy.j2 : Nat → ByteArray → List (S83) → Int → Int → Int → Int → List Int → Int → Int → Bool → Bool → Bool → Bool → Option ((List (S83)))
  | 0, _, _, _, _, _, _, _, _, _, _, _, _, _ => none
  | k + 1, x0, x5, x6, x8, x14, x15, x18, x19, x20, x39, x159000, x159001, x159002 => if x39 = true then (impl_movesBy.l1 k x0 x5 x6 x14 x15 x18 x19 (wrap64 (x20 + 1)) x159000 x159001 x159002) else ((impl_goalBy.f k x0 x6 x8 x159000 x159001 x159002).bind fun bt167 => (if bt167.2 = true then (if x5.length < 8796093022208 then (impl_movesBy.l1 k x0 (x5 ++ [(⟨x6, bt167.1⟩ : S83)]) x6 x14 x15 x18 x19 (wrap64 (x20 + 1)) x159000 x159001 x159002) else (none)) else (impl_movesBy.l1 k x0 x5 x6 x14 x15 x18 x19 (wrap64 (x20 + 1)) x159000 x159001 x159002)))
end
def impl_movesBy.f (k : Nat) (a0 : ByteArray) (a1_0 : Bool) (a1_1 : Bool) (a1_2 : Bool) : Option ((List (S83))) := impl_movesBy.l0 k a0 (([] : List (S83))) (a0.size : Int) 0 a1_0 a1_1 a1_2
theorem impl_movesBy.mono_l : ∀ k, (∀ y0 y1 y2 y3 y4 y5 y6, LeO (impl_movesBy.l0 k y0 y1 y2 y3 y4 y5 y6) (impl_movesBy.l0 (k + 1) y0 y1 y2 y3 y4 y5 y6)) ∧ (∀ y0 y1 y2 y3 y4 y5 y6 y7 y8 y9 y10, LeO (impl_movesBy.l1 k y0 y1 y2 y3 y4 y5 y6 y7 y8 y9 y10) (impl_movesBy.l1 (k + 1) y0 y1 y2 y3 y4 y5 y6 y7 y8 y9 y10)) ∧ (∀ y0 y1 y2 y3 y4 y5 y6 y7 y8 y9 y10 y11 y12, LeO (impl_movesBy.j2 k y0 y1 y2 y3 y4 y5 y6 y7 y8 y9 y10 y11 y12) (impl_movesBy.j2 (k + 1) y0 y1 y2 y3 y4 y5 y6 y7 y8 y9 y10 y11 y12))
  | 0 => ⟨fun _ _ _ _ _ _ _ r h => by simp [impl_movesBy.l0] at h, fun _ _ _ _ _ _ _ _ _ _ _ r h => by simp [impl_movesBy.l1] at h, fun _ _ _ _ _ _ _ _ _ _ _ _ _ r h => by simp [impl_movesBy.j2] at h⟩
  | k + 1 => by
    obtain ⟨ih0, ih1, ih2⟩ := impl_movesBy.mono_l k
    refine ⟨?_, ?_, ?_⟩
    · intro y0 y1 y2 y3 y4 y5 y6
      unfold impl_movesBy.l0
      repeat' first
      | (with_reducible exact ih0 _ _ _ _ _ _ _)
      | (with_reducible exact ih1 _ _ _ _ _ _ _ _ _ _ _)
      | (with_reducible exact ih2 _ _ _ _ _ _ _ _ _ _ _ _ _)
      | (with_reducible exact impl_goalBy.mono _ _ _ _ _ _ _)
      | (with_reducible exact LeO.refl _)
      | (with_reducible exact LeO.none _)
      | (with_reducible refine LeO.ite ?_ ?_)
      | (with_reducible refine LeO.bind ?_ (fun _ => ?_))
      | exact ih0 _ _ _ _ _ _ _
      | exact ih1 _ _ _ _ _ _ _ _ _ _ _
      | exact ih2 _ _ _ _ _ _ _ _ _ _ _ _ _
      | exact impl_goalBy.mono _ _ _ _ _ _ _
      | exact LeO.none _
      | refine LeO.ite ?_ ?_
      | refine LeO.bind ?_ (fun _ => ?_)
    · intro y0 y1 y2 y3 y4 y5 y6 y7 y8 y9 y10
      unfold impl_movesBy.l1
      repeat' first
      | (with_reducible exact ih0 _ _ _ _ _ _ _)
      | (with_reducible exact ih1 _ _ _ _ _ _ _ _ _ _ _)
      | (with_reducible exact ih2 _ _ _ _ _ _ _ _ _ _ _ _ _)
      | (with_reducible exact impl_goalBy.mono _ _ _ _ _ _ _)
      | (with_reducible exact LeO.refl _)
      | (with_reducible exact LeO.none _)
      | (with_reducible refine LeO.ite ?_ ?_)
      | (with_reducible refine LeO.bind ?_ (fun _ => ?_))
      | exact ih0 _ _ _ _ _ _ _
      | exact ih1 _ _ _ _ _ _ _ _ _ _ _
      | exact ih2 _ _ _ _ _ _ _ _ _ _ _ _ _
      | exact impl_goalBy.mono _ _ _ _ _ _ _
      | exact LeO.none _
      | refine LeO.ite ?_ ?_
      | refine LeO.bind ?_ (fun _ => ?_)
    · intro y0 y1 y2 y3 y4 y5 y6 y7 y8 y9 y10 y11 y12
      unfold impl_movesBy.j2
      repeat' first
      | (with_reducible exact ih0 _ _ _ _ _ _ _)
      | (with_reducible exact ih1 _ _ _ _ _ _ _ _ _ _ _)
      | (with_reducible exact ih2 _ _ _ _ _ _ _ _ _ _ _ _ _)
      | (with_reducible exact impl_goalBy.mono _ _ _ _ _ _ _)
      | (with_reducible exact LeO.refl _)
      | (with_reducible exact LeO.none _)
      | (with_reducible refine LeO.ite ?_ ?_)
      | (with_reducible refine LeO.bind ?_ (fun _ => ?_))
      | exact ih0 _ _ _ _ _ _ _
      | exact ih1 _ _ _ _ _ _ _ _ _ _ _
      | exact ih2 _ _ _ _ _ _ _ _ _ _ _ _ _
      | exact impl_goalBy.mono _ _ _ _ _ _ _
      | exact LeO.none _
      | refine LeO.ite ?_ ?_
      | refine LeO.bind ?_ (fun _ => ?_)
theorem impl_movesBy.mono : ∀ a0 a1 a2 a3 k, LeO (impl_movesBy.f k a0 a1 a2 a3) (impl_movesBy.f (k + 1) a0 a1 a2 a3) := by
  intro a0 a1 a2 a3 k
  obtain ⟨ih0, ih1, ih2⟩ := impl_movesBy.mono_l k
  unfold impl_movesBy.f
  repeat' first
      | (with_reducible exact ih0 _ _ _ _ _ _ _)
      | (with_reducible exact ih1 _ _ _ _ _ _ _ _ _ _ _)
      | (with_reducible exact ih2 _ _ _ _ _ _ _ _ _ _ _ _ _)
      | (with_reducible exact impl_goalBy.mono _ _ _ _ _ _ _)
      | (with_reducible exact LeO.refl _)
      | (with_reducible exact LeO.none _)
      | (with_reducible refine LeO.ite ?_ ?_)
      | (with_reducible refine LeO.bind ?_ (fun _ => ?_))
      | exact ih0 _ _ _ _ _ _ _
      | exact ih1 _ _ _ _ _ _ _ _ _ _ _
      | exact ih2 _ _ _ _ _ _ _ _ _ _ _ _ _
      | exact impl_goalBy.mono _ _ _ _ _ _ _
      | exact LeO.none _
      | refine LeO.ite ?_ ?_
      | refine LeO.bind ?_ (fun _ => ?_)
set_option maxHeartbeats 8000000 in
set_option maxRecDepth 100000 in
theorem impl_movesBy.calls (k : Nat) (a0 : ByteArray) (a1_0 : Bool) (a1_1 : Bool) (a1_2 : Bool) (r : List (S83)) (w : World) (h : impl_movesBy.f k a0 a1_0 a1_1 a1_2 = some r) :
    Calls Tryd.prog 69 #[.string a0, .agg #[.bool a1_0, .bool a1_1, .bool a1_2]] w fun e w' => ∃ v0_ : Value, e = .returned (v0_) ∧ Kd.R k83 83 w' w.heap.size (fun _ => True) v0_ r ∧ Below w.heap.size w w' := by
  have hu32 := Tryd.underlying32
  have hu83 := Tryd.underlying83
  have HB := Aside0.mk (Below.refl w.heap.size w)
  have H : (impl_movesBy.l0 k a0 (([] : List (S83))) (a0.size : Int) 0 a1_0 a1_1 a1_2) = some r := h
  clear h
  obtain ⟨y159, hy159⟩ : ∃ y_ : List (S83), y_ = (([] : List (S83))) := ⟨_, rfl⟩
  replace H : (impl_movesBy.l0 k a0 y159 (a0.size : Int) 0 a1_0 a1_1 a1_2) = some r := by first | (rw [hy159]; with_reducible exact H) | (have H2_ := (Option.bind_some _ _).symm.trans H; rw [hy159]; with_reducible exact H2_) | (have H2_ := (Option.bind_some _ _).symm.trans H; with_reducible exact H2_) | with_reducible exact H | (rw [hy159]; exact H) | exact H
  have Ny159 := Aside0.mk hy159
  clear hy159
  have H' := Aside0.mk H
  clear H
  go_enter Tryd.func69, Tryd.ntmps69
  go_wp2_with (first | ((with_reducible refine gate_dst (N := 3) rfl ?_); refine box_event ?hg (N := 3) ?hd (cs := #[.bool a1_0, .bool a1_1, .bool a1_2]) (t := 32) ?hr ?_; (case hd => rfl); (case hg => rfl); (case hr => first | (go_simp; done) | (go_simp; rfl)); intro gb158 hg w3 hbox hb; have n0_ := Aside0.mk (below_step (by repeat (first | (with_reducible first | exact HB.out | apply below_alloc | apply pw_below_drewN | apply below_drew1) | exact HB.out)) hb); have n1_ := Aside0.mk (hbox); have n2_ := Aside0.mk ((by rw [hg]; exact (below_size (by repeat (first | (with_reducible first | exact HB.out | apply below_alloc | apply pw_below_drewN | apply below_drew1) | exact HB.out))) : w.heap.size ≤ gb158)); have n3_ := Aside0.mk ((by rw [hg]; exact (below_size (by repeat (first | (with_reducible first | exact HB.out | apply below_alloc | apply pw_below_drewN | apply below_drew1) | exact HB.out))) : w.heap.size ≤ gb158)); clear HB; have HB := n0_; have BK158 := n1_; have GW158 := n2_; have GE158 := n3_; clear n0_ n1_ n2_ n3_; clear hb hbox hg) | ((with_reducible refine gate_dst (N := 12) rfl ?_); refine Kd.R_lit k83 _ 83 ?hg (N := 12) ?hd (xs := ([] : List (S83))) (inner := []) (ok := fun _ => True) (okp := fun _ => True) ?hr ?hp (fun _ hk => hk) trivial (Below.refl _ _) (Nat.le_refl _) (by simp) ?_; (case hd => rfl); (case hg => rfl); (case hr => first | (go_simp; done) | (go_simp; rfl)); (case hp => exact (Reps.none _ _)); intro v160 w4 ho5 hb hg_ hnew_; clear hg_ hnew_; (first | rw [← Ny159.out] at ho5 | (simp only [Int.reduceToNat] at ho5; rw [← Ny159.out] at ho5)); have n0_ := Aside0.mk (Kd.R_lower ho5 (below_size (by repeat (first | (with_reducible first | exact HB.out | apply below_alloc | apply pw_below_drewN | apply below_drew1 | refine below_set ?_ GE158.out) | exact HB.out)))); have n1_ := Aside0.mk (blk_below (g := gb158) (o := .cells #[.bool a1_0, .bool a1_1, .bool a1_2] 32 (0, 0)) (by (with_reducible repeat (first | refine blk_drewN ?_ _ | refine blk_drew ?_ | refine blk_alloc ?_ _)); exact BK158.out) hb); have n2_ := Aside0.mk (below_step (by repeat (first | (with_reducible first | exact HB.out | apply below_alloc | apply pw_below_drewN | apply below_drew1 | refine below_set ?_ GE158.out) | exact HB.out)) hb); clear BK158; clear HB; have HO161 := n0_; have BK158 := n1_; have HB := n2_; clear n0_ n1_ n2_; clear hb ho5))
  go_loopg [5, 15] k (fun kq v5 v15 w' => ∃ (x5_1 : List (S83)) (x15_1 : Int), v15 = .int .i64 x15_1 ∧ Aside0 (impl_movesBy.l0 kq a0 x5_1 (a0.size : Int) x15_1 a1_0 a1_1 a1_2 = some r) ∧ Aside0 (kq ≤ k) ∧ Aside0 (Kd.R k83 83 w' w.heap.size (fun _ => True) v5 x5_1) ∧ Aside0 (w'.heap[gb158]? = some (.cells #[.bool a1_0, .bool a1_1, .bool a1_2] 32 (0, 0))) ∧ Aside0 (Below w.heap.size w w'))
  case atStart => exact ⟨(y159), (0), (by first | rfl | (simp; done) | (simp [*]; done)), H', ⟨Nat.le_refl _⟩, ⟨by (with_reducible repeat (first | apply Kd.R_alloc | apply Kd.R_drewN | apply Kd.R_drew)); exact HO161.out⟩, ⟨by (with_reducible repeat (first | refine blk_drewN ?_ _ | refine blk_drew ?_ | refine blk_alloc ?_ _)); exact BK158.out⟩, ⟨by repeat (first | (with_reducible first | exact HB.out | apply below_alloc | apply pw_below_drewN | apply below_drew1 | refine below_set ?_ GE158.out) | exact HB.out)⟩⟩
  case round =>
    clear H'
    try clear p2
    obtain ⟨x5_1, x15_1, rfl, HA, HK1, HO_5, BK158, HB⟩ := hrel
    cases gk with
    | zero => exact absurd HA.out (by simp [impl_movesBy.l0])
    | succ k1 =>
      have H := HA.out
      clear HA
      simp only [impl_movesBy.l0] at H
      by_cases c6 : x15_1 < (a0.size : Int)
      · rw [if_pos c6] at H
        have c6b0 : decide (x15_1 < (a0.size : Int)) = true := decide_eq_true c6
        clear c6
        obtain ⟨y162, hy162⟩ : ∃ y_ : List Int, y_ = (([(-1), 1] : List Int)) := ⟨_, rfl⟩
        replace H : (impl_movesBy.l1 k1 a0 x5_1 x15_1 (a0.size : Int) x15_1 y162 (y162.length : Int) 0 a1_0 a1_1 a1_2) = some r := by first | (rw [hy162]; with_reducible exact H) | (have H2_ := (Option.bind_some _ _).symm.trans H; rw [hy162]; with_reducible exact H2_) | (have H2_ := (Option.bind_some _ _).symm.trans H; with_reducible exact H2_) | with_reducible exact H | (rw [hy162]; exact H) | exact H
        have Ny162 := Aside0.mk hy162
        clear hy162
        have H' := Aside0.mk H
        clear H
        go_wp2_with (first | ((with_reducible refine gate_dst (N := 18) rfl ?_); refine Kd.R_lit (Kd.int .i64) _ 3 ?hg (N := 18) ?hd (xs := ([(-1), 1] : List Int)) (inner := [.int .i64 (-1), .int .i64 1]) (ok := fun _ => True) (okp := fun _ => True) ?hr ?hp (fun _ hk => hk) trivial (Below.refl _ _) (Nat.le_refl _) (by simp) ?_; (case hd => rfl); (case hg => rfl); (case hr => first | (go_simp; done) | (go_simp; rfl)); (case hp => exact (Reps.one (show Kd.M (Kd.int .i64) _ _ _ (-1) [.int .i64 (-1)] from rfl) (Reps.one (show Kd.M (Kd.int .i64) _ _ _ 1 [.int .i64 1] from rfl) (Reps.none _ _)))); intro v163 w7 ho8 hb hg_ hnew_; clear hg_ hnew_; (first | rw [← Ny162.out] at ho8 | (simp only [Int.reduceToNat] at ho8; rw [← Ny162.out] at ho8)); have n0_ := Aside0.mk (Kd.R_below (by (with_reducible repeat (first | apply Kd.R_alloc | apply Kd.R_drewN | apply Kd.R_drew)); exact HO_5.out) hb); have n1_ := Aside0.mk (Kd.R_lower ho8 (below_size (by repeat (first | (with_reducible first | exact HB.out | apply below_alloc | apply pw_below_drewN | apply below_drew1 | refine below_set ?_ GE158.out) | exact HB.out)))); have n2_ := Aside0.mk (blk_below (g := gb158) (o := .cells #[.bool a1_0, .bool a1_1, .bool a1_2] 32 (0, 0)) (by (with_reducible repeat (first | refine blk_drewN ?_ _ | refine blk_drew ?_ | refine blk_alloc ?_ _)); exact BK158.out) hb); have n3_ := Aside0.mk (below_step (by repeat (first | (with_reducible first | exact HB.out | apply below_alloc | apply pw_below_drewN | apply below_drew1 | refine below_set ?_ GE158.out) | exact HB.out)) hb); clear HO_5; clear BK158; clear HB; have HO_5 := n0_; have HO164 := n1_; have BK158 := n2_; have HB := n3_; clear n0_ n1_ n2_ n3_; clear hb ho8; obtain ⟨Ao9, co9, eo9⟩ := Kd.R_slice HO164.out; subst eo9))
        go_loopg [5, 20] k1 (fun kq v5 v20 w' => ∃ (x5_2 : List (S83)) (x20_2 : Int), v20 = .int .i64 x20_2 ∧ Aside0 (impl_movesBy.l1 kq a0 x5_2 x15_1 (a0.size : Int) x15_1 y162 (y162.length : Int) x20_2 a1_0 a1_1 a1_2 = some r) ∧ Aside0 (kq ≤ k1) ∧ Aside0 (Kd.R k83 83 w' w.heap.size (fun _ => True) v5 x5_2) ∧ Aside0 (Kd.R (Kd.int .i64) 3 w' w.heap.size (fun _ => True) (.slice Ao9 y162.length co9) y162) ∧ Aside0 (w'.heap[gb158]? = some (.cells #[.bool a1_0, .bool a1_1, .bool a1_2] 32 (0, 0))) ∧ Aside0 (Below w.heap.size w w'))
        case atStart => exact ⟨(x5_1), (0), (by first | rfl | (simp; done) | (simp [*]; done)), H', ⟨Nat.le_refl _⟩, ⟨by (with_reducible repeat (first | apply Kd.R_alloc | apply Kd.R_drewN | apply Kd.R_drew)); exact HO_5.out⟩, ⟨by (with_reducible repeat (first | apply Kd.R_alloc | apply Kd.R_drewN | apply Kd.R_drew)); exact HO164.out⟩, ⟨by (with_reducible repeat (first | refine blk_drewN ?_ _ | refine blk_drew ?_ | refine blk_alloc ?_ _)); exact BK158.out⟩, ⟨by repeat (first | (with_reducible first | exact HB.out | apply below_alloc | apply pw_below_drewN | apply below_drew1 | refine below_set ?_ GE158.out) | exact HB.out)⟩⟩
        case round =>
          clear H'
          try clear p2
          try clear c6
          try clear c6b0
          try clear p2
          obtain ⟨x5_2, x20_2, rfl, HA, HK2, HO_5, HO_18, BK158, HB⟩ := hrel
          cases gk with
          | zero => exact absurd HA.out (by simp [impl_movesBy.l1])
          | succ k2 =>
            have H := HA.out
            clear HA
            simp only [impl_movesBy.l1] at H
            by_cases c10 : x20_2 < (y162.length : Int)
            · rw [if_pos c10] at H
              have c10b0 : decide (x20_2 < (y162.length : Int)) = true := decide_eq_true c10
              clear c10
              by_cases c11 : 0 ≤ x20_2
              · rw [if_pos c11] at H
                have c11b0 : decide (0 ≤ x20_2) = true := decide_eq_true c11
                clear c11
                by_cases c12 : x20_2 < (y162.length : Int)
                · rw [if_pos c12] at H
                  have c12b0 : decide (x20_2 < (y162.length : Int)) = true := decide_eq_true c12
                  clear c12
                  by_cases c13 : 0 ≤ x15_1
                  · rw [if_pos c13] at H
                    have c13b0 : decide (0 ≤ x15_1) = true := decide_eq_true c13
                    clear c13
                    by_cases c14 : x15_1 < (a0.size : Int)
                    · rw [if_pos c14] at H
                      have c14b0 : decide (x15_1 < (a0.size : Int)) = true := decide_eq_true c14
                      clear c14
                      replace H := Option.bind_eq_some_iff.mp H
                      obtain ⟨t166, A160, H⟩ := H
                      replace H : (if t166 = 0 then (impl_movesBy.j2 k2 a0 x5_2 x15_1 (rd y162 x20_2) (a0.size : Int) x15_1 y162 (y162.length : Int) x20_2 true a1_0 a1_1 a1_2) else (if t166 = (rd y162 x20_2) then (impl_movesBy.j2 k2 a0 x5_2 x15_1 (rd y162 x20_2) (a0.size : Int) x15_1 y162 (y162.length : Int) x20_2 false a1_0 a1_1 a1_2) else (impl_movesBy.j2 k2 a0 x5_2 x15_1 (rd y162 x20_2) (a0.size : Int) x15_1 y162 (y162.length : Int) x20_2 (!a1_1) a1_0 a1_1 a1_2))) = some r := H
                      have A16 := Aside0.mk A160
                      clear A160
                      have HC17 := Aside0.mk H
                      clear H
                      have p165 : 0 ≤ (x20_2 : Int) := of_decide_eq_true (by first | (with_reducible assumption) | assumption)
                      have q165 : x20_2 < (y162.length : Int) := of_decide_eq_true (by first | (with_reducible assumption) | assumption)
                      obtain ⟨ad165, e165, hx165_0⟩ := Kd.at_int (Kd.R_reads' HO_18.out).2.2 x20_2 p165 q165
                      cases e165
                      replace p165 := eq_true p165
                      replace q165 := eq_true q165
                      have p15 : 0 ≤ (x15_1 : Int) := of_decide_eq_true (by first | (with_reducible assumption) | assumption)
                      have q15 : x15_1 < (a0.size : Int) := of_decide_eq_true (by first | (with_reducible assumption) | assumption)
                      have hx15 := bt_at a0 x15_1
                      replace p15 := eq_true p15
                      replace q15 := eq_true q15
                      go_upto_region 9 with (first | ((with_reducible refine gate_callee (f := 89) rfl ?_); refine goesL_ (some 27) rfl rfl Tryd.func89 (by kernel_rfl) rfl #[.int .u8 (bt a0 x15_1)] rfl (by (try simp only [List.map_toArray, List.map_cons, List.map_nil]); first | done | rfl | (simp only [List.length_drop, List.length_take]; rfl)) ?_; (with_reducible refine (impl_stepOf.calls (bt a0 x15_1) t166 _ A16.out).mono ?_); rintro e w' ⟨rfl, ⟨nd, rfl⟩⟩; refine ⟨_, rfl, ?_⟩))
                      (try simp only [Act.put, List.setIfInBounds_toArray, List.set_cons_zero, List.set_cons_succ])
                      go_cut [39] (fun v39 wc => ∃ (kq : Nat) (x39_16 : Bool), v39 = .bool x39_16 ∧ Aside0 (impl_movesBy.j2 kq a0 x5_2 x15_1 (rd y162 x20_2) (a0.size : Int) x15_1 y162 (y162.length : Int) x20_2 x39_16 a1_0 a1_1 a1_2 = some r) ∧ Aside0 (kq ≤ k2) ∧ Aside0 (Kd.R k83 83 wc w.heap.size (fun _ => True) u5 x5_2) ∧ Aside0 (Kd.R (Kd.int .i64) 3 wc w.heap.size (fun _ => True) (.slice (some ad165) y162.length co9) y162) ∧ Aside0 (wc.heap[gb158]? = some (.cells #[.bool a1_0, .bool a1_1, .bool a1_2] 32 (0, 0))) ∧ Aside0 (Below w.heap.size w wc))
                      case first =>
                        have H := HC17.out
                        clear HC17
                        by_cases c18 : t166 = 0
                        · rw [if_pos c18] at H
                          have c18b0 : (t166 == 0) = true := beq_iff_eq.mpr c18
                          have c18b1 : (t166 != 0) = false := bne_eq_false_iff_eq.mpr c18
                          clear c18
                          (first | rw [c18b0] | (simp only [i64_w, i32_w]; rw [c18b0]) | skip)
                          have H' := Aside0.mk H
                          clear H
                          go_wp2
                          go_meet
                          case rel => exact ⟨_, (true), (by first | rfl | (simp; done) | (simp [*]; done)), H', ⟨by have := HK1.out; have := HK2.out; first | omega | exact Nat.le_refl _⟩, ⟨by (with_reducible repeat (first | apply Kd.R_alloc | apply Kd.R_drewN | apply Kd.R_drew)); exact HO_5.out⟩, ⟨by (with_reducible repeat (first | apply Kd.R_alloc | apply Kd.R_drewN | apply Kd.R_drew)); exact HO_18.out⟩, ⟨by (with_reducible repeat (first | refine blk_drewN ?_ _ | refine blk_drew ?_ | refine blk_alloc ?_ _)); exact BK158.out⟩, ⟨by repeat (first | (with_reducible first | exact HB.out | apply below_alloc | apply pw_below_drewN | apply below_drew1 | refine below_set ?_ GE158.out) | exact HB.out)⟩⟩
                        · rw [if_neg c18] at H
                          have c18b0 : (t166 == 0) = false := beq_eq_false_iff_ne.mpr c18
                          have c18b1 : (t166 != 0) = true := bne_iff_ne.mpr c18
                          (first | rw [c18b0] | (simp only [i64_w, i32_w]; rw [c18b0]) | skip)
                          by_cases c19 : t166 = (rd y162 x20_2)
                          · rw [if_pos c19] at H
                            have c19b0 : (t166 == (rd y162 x20_2)) = true := beq_iff_eq.mpr c19
                            have c19b1 : (t166 != (rd y162 x20_2)) = false := bne_eq_false_iff_eq.mpr c19
                            clear c19
                            have H' := Aside0.mk H
                            clear H
                            go_wp2
                            go_meet
                            case rel => exact ⟨_, (false), (by first | rfl | (simp; done) | (simp [*]; done)), H', ⟨by have := HK1.out; have := HK2.out; first | omega | exact Nat.le_refl _⟩, ⟨by (with_reducible repeat (first | apply Kd.R_alloc | apply Kd.R_drewN | apply Kd.R_drew)); exact HO_5.out⟩, ⟨by (with_reducible repeat (first | apply Kd.R_alloc | apply Kd.R_drewN | apply Kd.R_drew)); exact HO_18.out⟩, ⟨by (with_reducible repeat (first | refine blk_drewN ?_ _ | refine blk_drew ?_ | refine blk_alloc ?_ _)); exact BK158.out⟩, ⟨by repeat (first | (with_reducible first | exact HB.out | apply below_alloc | apply pw_below_drewN | apply below_drew1 | refine below_set ?_ GE158.out) | exact HB.out)⟩⟩
                          · rw [if_neg c19] at H
                            have c19b0 : (t166 == (rd y162 x20_2)) = false := beq_eq_false_iff_ne.mpr c19
                            have c19b1 : (t166 != (rd y162 x20_2)) = true := bne_iff_ne.mpr c19
                            have H' := Aside0.mk H
                            clear H
                            have hcz20_0 : wr.cell? ⟨gb158, 0, none⟩ = some (.bool a1_0) := (blk_cell BK158.out 0).trans rfl
                            have hcz20_1 : wr.cell? ⟨gb158, 1, none⟩ = some (.bool a1_1) := (blk_cell BK158.out 1).trans rfl
                            have hcz20_2 : wr.cell? ⟨gb158, 2, none⟩ = some (.bool a1_2) := (blk_cell BK158.out 2).trans rfl
                            have hfz20_0 := blk_frozen BK158.out 0
                            have hfz20_1 := blk_frozen BK158.out 1
                            have hfz20_2 := blk_frozen BK158.out 2
                            go_wp2
                            go_meet
                            case rel => exact ⟨_, (!a1_1), (by first | rfl | (simp; done) | (simp [*]; done)), H', ⟨by have := HK1.out; have := HK2.out; first | omega | exact Nat.le_refl _⟩, ⟨by (with_reducible repeat (first | apply Kd.R_alloc | apply Kd.R_drewN | apply Kd.R_drew)); exact HO_5.out⟩, ⟨by (with_reducible repeat (first | apply Kd.R_alloc | apply Kd.R_drewN | apply Kd.R_drew)); exact HO_18.out⟩, ⟨by (with_reducible repeat (first | refine blk_drewN ?_ _ | refine blk_drew ?_ | refine blk_alloc ?_ _)); exact BK158.out⟩, ⟨by repeat (first | (with_reducible first | exact HB.out | apply below_alloc | apply pw_below_drewN | apply below_drew1 | refine below_set ?_ GE158.out) | exact HB.out)⟩⟩
                      case rest =>
                        clear HC17
                        try clear c1
                        try clear p1
                        try clear q1
                        try clear hx1
                        try clear p2
                        try clear c6
                        try clear c6b0
                        try clear c8
                        try clear c10
                        try clear c10b0
                        try clear c11
                        try clear c11b0
                        try clear c12
                        try clear c12b0
                        try clear c13
                        try clear c13b0
                        try clear c14
                        try clear c14b0
                        try clear p15
                        try clear q15
                        try clear hx15
                        try clear p16
                        try clear q16
                        try clear hx16
                        try clear c18
                        try clear c18b0
                        try clear c18b1
                        try clear c19
                        try clear c19b0
                        try clear c19b1
                        try clear hcz20_0
                        try clear hcz20_1
                        try clear hcz20_2
                        try clear hfz20_0
                        try clear hfz20_1
                        try clear hfz20_2
                        try clear hx165_0
                        try clear p15
                        try clear p165
                        try clear p2
                        try clear q15
                        try clear q165
                        obtain ⟨kq, x39_16, rfl, HA, HJ16, HO_5, HO_18, BK158, HB⟩ := hcut
                        cases kq with
                        | zero => exact absurd HA.out (by simp [impl_movesBy.j2])
                        | succ kj16 =>
                          have H := HA.out
                          clear HA
                          simp only [impl_movesBy.j2] at H
                          by_cases c21 : x39_16 = true
                          · subst c21
                            have H1 : (impl_movesBy.l1 kj16 a0 x5_2 x15_1 (a0.size : Int) x15_1 y162 (y162.length : Int) (wrap64 (x20_2 + 1)) a1_0 a1_1 a1_2) = some r := by rw [if_pos rfl] at H; exact H
                            clear H
                            have H := H1
                            clear H1
                            have H' := Aside0.mk H
                            clear H
                            go_wp2
                            go_roundg kj16
                            case measure => have := HK1.out; have := HK2.out; have := HJ16.out; omega
                            case rel => exact ⟨(x5_2), (wrap64 (x20_2 + 1)), (by first | rfl | (simp; done) | (simp [*]; done)), H', ⟨by have := HK1.out; have := HK2.out; have := HJ16.out; omega⟩, ⟨by (with_reducible repeat (first | apply Kd.R_alloc | apply Kd.R_drewN | apply Kd.R_drew)); exact HO_5.out⟩, ⟨by (with_reducible repeat (first | apply Kd.R_alloc | apply Kd.R_drewN | apply Kd.R_drew)); exact HO_18.out⟩, ⟨by (with_reducible repeat (first | refine blk_drewN ?_ _ | refine blk_drew ?_ | refine blk_alloc ?_ _)); exact BK158.out⟩, ⟨by repeat (first | (with_reducible first | exact HB.out | apply below_alloc | apply pw_below_drewN | apply below_drew1 | refine below_set ?_ GE158.out) | exact HB.out)⟩⟩
                          · replace c21 := Bool.eq_false_iff.mpr c21
                            subst c21
                            have H1 : ((impl_goalBy.f kj16 a0 x15_1 (rd y162 x20_2) a1_0 a1_1 a1_2).bind fun bt167 => (if bt167.2 = true then (if x5_2.length < 8796093022208 then (impl_movesBy.l1 kj16 a0 (x5_2 ++ [(⟨x15_1, bt167.1⟩ : S83)]) x15_1 (a0.size : Int) x15_1 y162 (y162.length : Int) (wrap64 (x20_2 + 1)) a1_0 a1_1 a1_2) else (none)) else (impl_movesBy.l1 kj16 a0 x5_2 x15_1 (a0.size : Int) x15_1 y162 (y162.length : Int) (wrap64 (x20_2 + 1)) a1_0 a1_1 a1_2))) = some r := by rw [if_neg (show ¬ (false = true) by decide)] at H; exact H
                            clear H
                            have H := H1
                            clear H1
                            replace H := Option.bind_eq_some_iff.mp H
                            obtain ⟨⟨t167, t168⟩, A220, H⟩ := H
                            replace H : (if t168 = true then (if x5_2.length < 8796093022208 then (impl_movesBy.l1 kj16 a0 (x5_2 ++ [(⟨x15_1, t167⟩ : S83)]) x15_1 (a0.size : Int) x15_1 y162 (y162.length : Int) (wrap64 (x20_2 + 1)) a1_0 a1_1 a1_2) else (none)) else (impl_movesBy.l1 kj16 a0 x5_2 x15_1 (a0.size : Int) x15_1 y162 (y162.length : Int) (wrap64 (x20_2 + 1)) a1_0 a1_1 a1_2)) = some r := H
                            have A22 := Aside0.mk A220
                            clear A220
                            by_cases c23 : t168 = true
                            · subst c23
                              have H1 : (if x5_2.length < 8796093022208 then (impl_movesBy.l1 kj16 a0 (x5_2 ++ [(⟨x15_1, t167⟩ : S83)]) x15_1 (a0.size : Int) x15_1 y162 (y162.length : Int) (wrap64 (x20_2 + 1)) a1_0 a1_1 a1_2) else (none)) = some r := by rw [if_pos rfl] at H; exact H
                              clear H
                              have H := H1
                              clear H1
                              by_cases c24 : x5_2.length < 8796093022208
                              · rw [if_pos c24] at H
                                have LMc24 := Aside0.mk c24
                                clear c24
                                obtain ⟨y169, hy169⟩ : ∃ y_ : List (S83), y_ = (x5_2 ++ [(⟨x15_1, t167⟩ : S83)]) := ⟨_, rfl⟩
                                replace H : (impl_movesBy.l1 kj16 a0 y169 x15_1 (a0.size : Int) x15_1 y162 (y162.length : Int) (wrap64 (x20_2 + 1)) a1_0 a1_1 a1_2) = some r := by first | (rw [hy169]; with_reducible exact H) | (have H2_ := (Option.bind_some _ _).symm.trans H; rw [hy169]; with_reducible exact H2_) | (have H2_ := (Option.bind_some _ _).symm.trans H; with_reducible exact H2_) | with_reducible exact H | (rw [hy169]; exact H) | exact H
                                have Ny169 := Aside0.mk hy169
                                clear hy169
                                have H' := Aside0.mk H
                                clear H
                                have hcz25_0 : wc.cell? ⟨gb158, 0, none⟩ = some (.bool a1_0) := (blk_cell BK158.out 0).trans rfl
                                have hcz25_1 : wc.cell? ⟨gb158, 1, none⟩ = some (.bool a1_1) := (blk_cell BK158.out 1).trans rfl
                                have hcz25_2 : wc.cell? ⟨gb158, 2, none⟩ = some (.bool a1_2) := (blk_cell BK158.out 2).trans rfl
                                have hfz25_0 := blk_frozen BK158.out 0
                                have hfz25_1 := blk_frozen BK158.out 1
                                have hfz25_2 := blk_frozen BK158.out 2
                                go_wp2_with (first | ((with_reducible refine gate_callee (f := 95) rfl ?_); refine goesL_ (some 45) rfl rfl Tryd.func95 (by kernel_rfl) rfl #[.string a0, .int .i64 x15_1, .int .i64 (rd y162 x20_2), .agg #[.bool a1_0, .bool a1_1, .bool a1_2]] rfl (by (try simp only [List.map_toArray, List.map_cons, List.map_nil]); first | done | rfl | (simp only [List.length_drop, List.length_take]; rfl)) ?_; (with_reducible refine (impl_goalBy.calls kj16 a0 x15_1 (rd y162 x20_2) a1_0 a1_1 a1_2 t167 true _ A22.out).mono ?_); rintro e w26 ⟨rfl, hb⟩; refine ⟨_, rfl, ?_⟩; have n0_ := Aside0.mk (Kd.R_below (by (with_reducible repeat (first | apply Kd.R_alloc | apply Kd.R_drewN | apply Kd.R_drew)); exact HO_5.out) hb); have n1_ := Aside0.mk (Kd.R_below (by (with_reducible repeat (first | apply Kd.R_alloc | apply Kd.R_drewN | apply Kd.R_drew)); exact HO_18.out) hb); have n2_ := Aside0.mk (blk_below (g := gb158) (o := .cells #[.bool a1_0, .bool a1_1, .bool a1_2] 32 (0, 0)) (by (with_reducible repeat (first | refine blk_drewN ?_ _ | refine blk_drew ?_ | refine blk_alloc ?_ _)); exact BK158.out) hb); have n3_ := Aside0.mk (below_step (by repeat (first | (with_reducible first | exact HB.out | apply below_alloc | apply pw_below_drewN | apply below_drew1 | refine below_set ?_ GE158.out) | exact HB.out)) hb); clear HO_5; clear HO_18; clear BK158; clear HB; have HO_5 := n0_; have HO_18 := n1_; have BK158 := n2_; have HB := n3_; clear n0_ n1_ n2_ n3_; (try clear hb); (try clear hb2); (try clear hk); (try clear hi)) | ((with_reducible refine gate_builtin (b := .append) (xs := #[.tmp 49, .tmp 53]) rfl ?_); at_builtin; refine Kd.R_append k83 (w0 := w) w.heap.size rfl (.tmp 49) (.tmp 53) 46 83 (.agg #[(.int .i64 0), (.int .i64 0)]) 16 rfl Tryd.underlying46 info83 rfl (by decide) (by omega) u5 x5_2 (⟨x15_1, t167⟩ : S83) [.int .i64 x15_1, .int .i64 t167] (fun _ => True) (fun _ => False) rfl rfl ?aP (fun _ hk => hk.elim) ?aF ?aO ?aB ?aS ?aL ?_; (case aP => exact k83_mkM _ _ _ (⟨x15_1, t167⟩ : S83)); (case aB => exact (by repeat (first | (with_reducible first | exact HB.out | apply below_alloc | apply pw_below_drewN | apply below_drew1 | refine below_set ?_ GE158.out) | exact HB.out))); (case aF => exact (fun _ _ => trivial)); (case aO => exact (by (with_reducible repeat (first | apply Kd.R_alloc | apply Kd.R_drewN | apply Kd.R_drew)); exact HO_5.out)); (case aS => exact (below_size (by repeat (first | (with_reducible first | exact HB.out | apply below_alloc | apply pw_below_drewN | apply below_drew1 | refine below_set ?_ GE158.out) | exact HB.out)))); (case aL => have := LMc24.out; omega); intro v170 w27 ho hb hg hat; rw [← Ny169.out] at ho; have n0_ := Aside0.mk (Kd.R_over' (by (with_reducible repeat (first | apply Kd.R_alloc | apply Kd.R_drewN | apply Kd.R_drew)); exact HO_18.out) (Kd.R_typed (by (with_reducible repeat (first | apply Kd.R_alloc | apply Kd.R_drewN | apply Kd.R_drew)); exact HO_5.out)) (by decide) hg); have n1_ := Aside0.mk (blk_grown (g := gb158) (o := .cells #[.bool a1_0, .bool a1_1, .bool a1_2] 32 (0, 0)) (by (with_reducible repeat (first | refine blk_drewN ?_ _ | refine blk_drew ?_ | refine blk_alloc ?_ _)); exact BK158.out) hg (Kd.R_ne HO_5.out BK158.out (by decide))); have n2_ := Aside0.mk (hb); have n3_ := Aside0.mk (ho); clear HO_18; clear BK158; clear HB; clear HO_5; have HO_18 := n0_; have BK158 := n1_; have HB := n2_; have HO171 := n3_; clear n0_ n1_ n2_ n3_; clear ho hb hg hat))
                                go_roundg kj16
                                case measure => have := HK1.out; have := HK2.out; have := HJ16.out; omega
                                case rel => exact ⟨(y169), (wrap64 (x20_2 + 1)), (by first | rfl | (simp; done) | (simp [*]; done)), H', ⟨by have := HK1.out; have := HK2.out; have := HJ16.out; omega⟩, ⟨by (with_reducible repeat (first | apply Kd.R_alloc | apply Kd.R_drewN | apply Kd.R_drew)); exact HO171.out⟩, ⟨by (with_reducible repeat (first | apply Kd.R_alloc | apply Kd.R_drewN | apply Kd.R_drew)); exact HO_18.out⟩, ⟨by (with_reducible repeat (first | refine blk_drewN ?_ _ | refine blk_drew ?_ | refine blk_alloc ?_ _)); exact BK158.out⟩, ⟨by repeat (first | (with_reducible first | exact HB.out | apply below_alloc | apply pw_below_drewN | apply below_drew1 | refine below_set ?_ GE158.out) | exact HB.out)⟩⟩
                              · rw [if_neg c24] at H
                                exact absurd H (by simp)
                            · replace c23 := Bool.eq_false_iff.mpr c23
                              subst c23
                              have H1 : (impl_movesBy.l1 kj16 a0 x5_2 x15_1 (a0.size : Int) x15_1 y162 (y162.length : Int) (wrap64 (x20_2 + 1)) a1_0 a1_1 a1_2) = some r := by rw [if_neg (show ¬ (false = true) by decide)] at H; exact H
                              clear H
                              have H := H1
                              clear H1
                              have H' := Aside0.mk H
                              clear H
                              have hcz28_0 : wc.cell? ⟨gb158, 0, none⟩ = some (.bool a1_0) := (blk_cell BK158.out 0).trans rfl
                              have hcz28_1 : wc.cell? ⟨gb158, 1, none⟩ = some (.bool a1_1) := (blk_cell BK158.out 1).trans rfl
                              have hcz28_2 : wc.cell? ⟨gb158, 2, none⟩ = some (.bool a1_2) := (blk_cell BK158.out 2).trans rfl
                              have hfz28_0 := blk_frozen BK158.out 0
                              have hfz28_1 := blk_frozen BK158.out 1
                              have hfz28_2 := blk_frozen BK158.out 2
                              go_wp2_with (first | ((with_reducible refine gate_callee (f := 95) rfl ?_); refine goesL_ (some 45) rfl rfl Tryd.func95 (by kernel_rfl) rfl #[.string a0, .int .i64 x15_1, .int .i64 (rd y162 x20_2), .agg #[.bool a1_0, .bool a1_1, .bool a1_2]] rfl (by (try simp only [List.map_toArray, List.map_cons, List.map_nil]); first | done | rfl | (simp only [List.length_drop, List.length_take]; rfl)) ?_; (with_reducible refine (impl_goalBy.calls kj16 a0 x15_1 (rd y162 x20_2) a1_0 a1_1 a1_2 t167 false _ A22.out).mono ?_); rintro e w29 ⟨rfl, hb⟩; refine ⟨_, rfl, ?_⟩; have n0_ := Aside0.mk (Kd.R_below (by (with_reducible repeat (first | apply Kd.R_alloc | apply Kd.R_drewN | apply Kd.R_drew)); exact HO_5.out) hb); have n1_ := Aside0.mk (Kd.R_below (by (with_reducible repeat (first | apply Kd.R_alloc | apply Kd.R_drewN | apply Kd.R_drew)); exact HO_18.out) hb); have n2_ := Aside0.mk (blk_below (g := gb158) (o := .cells #[.bool a1_0, .bool a1_1, .bool a1_2] 32 (0, 0)) (by (with_reducible repeat (first | refine blk_drewN ?_ _ | refine blk_drew ?_ | refine blk_alloc ?_ _)); exact BK158.out) hb); have n3_ := Aside0.mk (below_step (by repeat (first | (with_reducible first | exact HB.out | apply below_alloc | apply pw_below_drewN | apply below_drew1 | refine below_set ?_ GE158.out) | exact HB.out)) hb); clear HO_5; clear HO_18; clear BK158; clear HB; have HO_5 := n0_; have HO_18 := n1_; have BK158 := n2_; have HB := n3_; clear n0_ n1_ n2_ n3_; (try clear hb); (try clear hb2); (try clear hk); (try clear hi)))
                              go_roundg kj16
                              case measure => have := HK1.out; have := HK2.out; have := HJ16.out; omega
                              case rel => exact ⟨(x5_2), (wrap64 (x20_2 + 1)), (by first | rfl | (simp; done) | (simp [*]; done)), H', ⟨by have := HK1.out; have := HK2.out; have := HJ16.out; omega⟩, ⟨by (with_reducible repeat (first | apply Kd.R_alloc | apply Kd.R_drewN | apply Kd.R_drew)); exact HO_5.out⟩, ⟨by (with_reducible repeat (first | apply Kd.R_alloc | apply Kd.R_drewN | apply Kd.R_drew)); exact HO_18.out⟩, ⟨by (with_reducible repeat (first | refine blk_drewN ?_ _ | refine blk_drew ?_ | refine blk_alloc ?_ _)); exact BK158.out⟩, ⟨by repeat (first | (with_reducible first | exact HB.out | apply below_alloc | apply pw_below_drewN | apply below_drew1 | refine below_set ?_ GE158.out) | exact HB.out)⟩⟩
                    · rw [if_neg c14] at H
                      exact absurd H (by simp)
                  · rw [if_neg c13] at H
                    exact absurd H (by simp)
                · rw [if_neg c12] at H
                  exact absurd H (by simp)
              · rw [if_neg c11] at H
                exact absurd H (by simp)
            · rw [if_neg c10] at H
              have c10b0 : decide (x20_2 < (y162.length : Int)) = false := decide_eq_false c10
              clear c10
              have H' := Aside0.mk H
              clear H
              go_wp2
              go_roundg k2
              case measure => have := HK1.out; have := HK2.out; omega
              case rel => exact ⟨(x5_2), (wrap64 (x15_1 + 1)), (by first | rfl | (simp; done) | (simp [*]; done)), H', ⟨by have := HK1.out; have := HK2.out; omega⟩, ⟨by (with_reducible repeat (first | apply Kd.R_alloc | apply Kd.R_drewN | apply Kd.R_drew)); exact HO_5.out⟩, ⟨by (with_reducible repeat (first | refine blk_drewN ?_ _ | refine blk_drew ?_ | refine blk_alloc ?_ _)); exact BK158.out⟩, ⟨by repeat (first | (with_reducible first | exact HB.out | apply below_alloc | apply pw_below_drewN | apply below_drew1 | refine below_set ?_ GE158.out) | exact HB.out)⟩⟩
      · rw [if_neg c6] at H
        have c6b0 : decide (x15_1 < (a0.size : Int)) = false := decide_eq_false c6
        clear c6
        obtain rfl := Option.some.inj H
        go_wp2
        go_ret
        exact ⟨_, by first | rfl | (simp [errW_none, errW_some] <;> rfl) | (simp [*, errW_none, errW_some] <;> rfl), by (with_reducible repeat (first | apply Kd.R_alloc | apply Kd.R_drewN | apply Kd.R_drew)); exact HO_5.out, by repeat (first | (with_reducible first | exact HB.out | apply below_alloc | apply pw_below_drewN | apply below_drew1 | refine below_set ?_ GE158.out) | exact HB.out)⟩

/-! ### impl_byRule: function 58 (given) -/
section
open Go Go.RowKit Go.Lib Go.Proofs.YtjgijaocinpkhaaDoorW.PrintWords Go.Proofs.YtjgijaocinpkhaaDoorW.PrintLast Go.Proofs.YtjgijaocinpkhaaDoor.Pm
theorem PathsAt.lower {w0 w1 w : World} {v : Value} {E : List PEnt} (h : PathsAt w1 w v E) (hs : w0.heap.size ≤ w1.heap.size) : PathsAt w0 w v E := by
  obtain ⟨bm, v0, v2, v3, v4, e, hl, hm, r0, r2, r3, r4, hne⟩ := h
  exact ⟨bm, v0, v2, v3, v4, e, by omega, hm, Kd.R_lower r0 hs, Kd.R_lower r2 hs, Kd.R_lower r3 hs, Kd.R_lower r4 hs, hne⟩
/-- the search stays as it lies while blocks that are none of its own turn -/
theorem PathsAt.move {w0 w w1 : World} {v : Value} {E : List PEnt} (h : PathsAt w0 w v E) (g : Nat) (hg : g ≤ w0.heap.size) {cs : Array Value} {t : Nat} (hb : w.heap[g]? = some (.cells cs t (0, 0))) (h9 : 9 ≠ t) (h3 : 3 ≠ t) (hv : 83 ≠ t) (hk : ∀ k, k ≠ g → w1.heap[k]? = w.heap[k]?) : PathsAt w0 w1 v E := by
  obtain ⟨bm, v0, v2, v3, v4, e, hl, hm, r0, r2, r3, r4, hne⟩ := h
  have ob : ∀ (u : Value), some g ≠ u.ownBlock → ∀ k, u.ownBlock = some k → k ≠ g := fun u hu k hk e => hu (by rw [hk, e])
  exact ⟨bm, v0, v2, v3, v4, e, hl, hm.move (hk bm (by omega)), R_stay flat_s r0 (fun k hk' => hk k (ob _ (Kd.R_ne r0 hb h9) k hk')), R_stay flat_i r2 (fun k hk' => hk k (ob _ (Kd.R_ne r2 hb h3) k hk')), R_stay flat_m r3 (fun k hk' => hk k (ob _ (Kd.R_ne r3 hb hv) k hk')), R_stay flat_i r4 (fun k hk' => hk k (ob _ (Kd.R_ne r4 hb h3) k hk')), hne⟩
theorem PathsAt.up {w0 w w1 : World} {v : Value} {E : List PEnt} (h : PathsAt w0 w v E) (hb : Below w.heap.size w w1) : PathsAt w0 w1 v E := by
  obtain ⟨bm, v0, v2, v3, v4, e, hl, hm, r0, r2, r3, r4, hne⟩ := h
  exact ⟨bm, v0, v2, v3, v4, e, hl, hm.below hb, Kd.R_below r0 hb, Kd.R_below r2 hb, Kd.R_below r3 hb, Kd.R_below r4 hb, hne⟩
set_option maxHeartbeats 4000000 in
set_option maxRecDepth 1000000 in
theorem impl_byRule.pays (o b l : Bool) (w0 : World) (g : Nat) (hg : w0.heap[g]? = some (.cells #[.bool o, .bool b, .bool l] 32 (0, 0))) (W : World) (s : ByteArray) (ms : List S83) (hW : Below w0.heap.size w0 W) (h : impl_movesBy.f 2000 s o b l = some ms) :
    Calls Tryd.prog 92 (#[.string s] ++ #[.pointer (some ⟨g, 0, none⟩)]) W fun e W' => ∃ v, e = .returned v ∧ Kd.R k83 83 W' W.heap.size (fun _ => True) v ms ∧ Below W.heap.size W W' := by
  have hb := blk_below hg hW
  have c0 : W.cell? ⟨g, 0, none⟩ = some (.bool o) := (blk_cell hb 0).trans rfl
  have c1 : W.cell? ⟨g, 1, none⟩ = some (.bool b) := (blk_cell hb 1).trans rfl
  have c2 : W.cell? ⟨g, 2, none⟩ = some (.bool l) := (blk_cell hb 2).trans rfl
  clear hg hW hb
  go_enter Tryd.func92, Tryd.ntmps92
  go_wp2_with (first
    | (go_at_call 69; refine (impl_movesBy.calls 2000 s o b l ms _ h).mono ?_; rintro e w2 ⟨v2, rfl, ho, hb⟩))
  go_ret
  exact ⟨_, rfl, ho, hb⟩
theorem impl_byRule.enters : Enters Tryd.prog 92 := enters_of Tryd.func92 (by kernel_rfl) rfl
/-- all texts that are reached by a rule -/
def byRuleO (K : Nat) (a : ByteArray) (o b l : Bool) : Option (List PEnt) := if a.size ≤ 1000 then pathsO (fun s => impl_movesBy.f 2000 s o b l) K 0 [⟨a, -1, ⟨0, 0⟩, 0⟩] else none
set_option maxHeartbeats 4000000 in
set_option maxRecDepth 1000000 in
theorem impl_byRule.walk (K : Nat) (a : ByteArray) (o b l : Bool) (EF : List PEnt) (w : World) (h : byRuleO K a o b l = some EF) :
    Calls Tryd.prog 58 #[.string a, .agg #[.bool o, .bool b, .bool l]] w fun e w' => ∃ v, e = .returned v ∧ PathsAt w w' v EF ∧ Pe EF ∧ Below w.heap.size w w' := by
  unfold byRuleO at h
  split at h
  case isFalse => cases h
  rename_i ha
  have hmf : ∀ (fn : Fn) (first cap : Array Value) (w : World), (Instr.makeFunc fn first cap).run Tryd.prog w = .ok (.func fn first cap) w := fun _ _ _ _ => rfl
  obtain ⟨W1, hW1⟩ : ∃ W1, (w.alloc (.cells #[.bool o, .bool b, .bool l] 32 (0, 0))).alloc (.cells #[.slice none 0 0, .map none, .slice none 0 0, .slice none 0 0, .slice none 0 0] 67 (0, 0)) = W1 := ⟨_, rfl⟩
  have hB1 : Below w.heap.size w W1 := hW1 ▸ below_alloc (below_alloc (Below.refl _ _) _) _
  have hs1 : W1.heap.size = w.heap.size + 1 + 1 := by rw [← hW1]; simp
  have hx1 : W1.heap[w.heap.size]? = some (.cells #[.bool o, .bool b, .bool l] 32 (0, 0)) := hW1 ▸ blk_alloc (blk_new w _) _
  have hr1 : W1.heap[w.heap.size + 1]? = some (.cells #[.slice none 0 0, .map none, .slice none 0 0, .slice none 0 0, .slice none 0 0] 67 (0, 0)) := by
    rw [← hW1, show w.heap.size + 1 = (w.alloc (.cells #[.bool o, .bool b, .bool l] 32 (0, 0))).heap.size by simp]
    exact blk_new _ _
  have HC := Aside0.mk (impl_pathsFrom.walk 92 #[.pointer (some ⟨w.heap.size, 0, none⟩)] impl_byRule.enters (fun s => impl_movesBy.f 2000 s o b l) a ha K EF W1 (fun W s ms hW hm => impl_byRule.pays o b l W1 w.heap.size hx1 W s ms hW hm) h)
  clear h
  go_enter Tryd.func58, Tryd.ntmps58
  go_wp2_with (first
    | (go_at_call 52; refine HC.out.mono ?_; rintro e w2 ⟨v, rfl, hP, hE, hb2⟩; obtain ⟨bm, v0, v2, v3, v4, rfl, hl, hm, r0, r2, r3, r4, hne⟩ := hP; obtain ⟨A0, n0, k0, z0⟩ := R_any r0; obtain ⟨A2, n2, k2, z2⟩ := R_any r2; obtain ⟨A3, n3, k3, z3⟩ := R_any r3; obtain ⟨A4, n4, k4, z4⟩ := R_any r4; subst z0; subst z2; subst z3; subst z4; have hr2 := blk_below hr1 hb2; have hd0 : w2.cell? ⟨w.heap.size + 1, 0, none⟩ = some (.slice none 0 0) := (blk_cell hr2 0).trans rfl; have hd1 : w2.cell? ⟨w.heap.size + 1, 1, none⟩ = some (.map none) := (blk_cell hr2 1).trans rfl; have hd2 : w2.cell? ⟨w.heap.size + 1, 2, none⟩ = some (.slice none 0 0) := (blk_cell hr2 2).trans rfl; have hd3 : w2.cell? ⟨w.heap.size + 1, 3, none⟩ = some (.slice none 0 0) := (blk_cell hr2 3).trans rfl; have hd4 : w2.cell? ⟨w.heap.size + 1, 4, none⟩ = some (.slice none 0 0) := (blk_cell hr2 4).trans rfl; have hf0 := blk_frozen hr2 0; have hf1 := blk_frozen hr2 1; have hf2 := blk_frozen hr2 2; have hf3 := blk_frozen hr2 3; have hf4 := blk_frozen hr2 4))
  have y0 : ((w2).setCell ⟨w.heap.size + 1, 0, none⟩ (.slice A0 n0 k0)).heap[w.heap.size + 1]? = some (.cells #[(.slice A0 n0 k0), (.map none), (.slice none 0 0), (.slice none 0 0), (.slice none 0 0)] 67 (0, 0)) := blk_put hr2 0 (.slice A0 n0 k0) rfl
  have y1 : (((w2).setCell ⟨w.heap.size + 1, 0, none⟩ (.slice A0 n0 k0)).setCell ⟨w.heap.size + 1, 1, none⟩ (.map (some bm))).heap[w.heap.size + 1]? = some (.cells #[(.slice A0 n0 k0), (.map (some bm)), (.slice none 0 0), (.slice none 0 0), (.slice none 0 0)] 67 (0, 0)) := blk_put y0 1 (.map (some bm)) rfl
  have y2 : ((((w2).setCell ⟨w.heap.size + 1, 0, none⟩ (.slice A0 n0 k0)).setCell ⟨w.heap.size + 1, 1, none⟩ (.map (some bm))).setCell ⟨w.heap.size + 1, 2, none⟩ (.slice A2 n2 k2)).heap[w.heap.size + 1]? = some (.cells #[(.slice A0 n0 k0), (.map (some bm)), (.slice A2 n2 k2), (.slice none 0 0), (.slice none 0 0)] 67 (0, 0)) := blk_put y1 2 (.slice A2 n2 k2) rfl
  have y3 : (((((w2).setCell ⟨w.heap.size + 1, 0, none⟩ (.slice A0 n0 k0)).setCell ⟨w.heap.size + 1, 1, none⟩ (.map (some bm))).setCell ⟨w.heap.size + 1, 2, none⟩ (.slice A2 n2 k2)).setCell ⟨w.heap.size + 1, 3, none⟩ (.slice A3 n3 k3)).heap[w.heap.size + 1]? = some (.cells #[(.slice A0 n0 k0), (.map (some bm)), (.slice A2 n2 k2), (.slice A3 n3 k3), (.slice none 0 0)] 67 (0, 0)) := blk_put y2 3 (.slice A3 n3 k3) rfl
  have y4 : ((((((w2).setCell ⟨w.heap.size + 1, 0, none⟩ (.slice A0 n0 k0)).setCell ⟨w.heap.size + 1, 1, none⟩ (.map (some bm))).setCell ⟨w.heap.size + 1, 2, none⟩ (.slice A2 n2 k2)).setCell ⟨w.heap.size + 1, 3, none⟩ (.slice A3 n3 k3)).setCell ⟨w.heap.size + 1, 4, none⟩ (.slice A4 n4 k4)).heap[w.heap.size + 1]? = some (.cells #[(.slice A0 n0 k0), (.map (some bm)), (.slice A2 n2 k2), (.slice A3 n3 k3), (.slice A4 n4 k4)] 67 (0, 0)) := blk_put y3 4 (.slice A4 n4 k4) rfl
  have hP : PathsAt W1 w2 (.agg #[(.slice A0 n0 k0), (.map (some bm)), (.slice A2 n2 k2), (.slice A3 n3 k3), (.slice A4 n4 k4)]) EF := ⟨bm, _, _, _, _, rfl, hl, hm, r0, r2, r3, r4, hne⟩
  refine bodyPost_ret (results_cell_row rfl _ _ (w.heap.size + 1) 67 #[(.slice A0 n0 k0), (.map (some bm)), (.slice A2 n2 k2), (.slice A3 n3 k3), (.slice A4 n4 k4)] (0, 0) _ rfl y4 Tryd.underlying67 rfl (by kernel_rfl)) rfl ?_
  have hk : ∀ k, k ≠ w.heap.size + 1 → ((((((w2).setCell ⟨w.heap.size + 1, 0, none⟩ (.slice A0 n0 k0)).setCell ⟨w.heap.size + 1, 1, none⟩ (.map (some bm))).setCell ⟨w.heap.size + 1, 2, none⟩ (.slice A2 n2 k2)).setCell ⟨w.heap.size + 1, 3, none⟩ (.slice A3 n3 k3)).setCell ⟨w.heap.size + 1, 4, none⟩ (.slice A4 n4 k4)).heap[k]? = w2.heap[k]? := fun k hk => by
    rw [Below.heap_setCell _ ⟨w.heap.size + 1, 4, none⟩ _ k hk, Below.heap_setCell _ ⟨w.heap.size + 1, 3, none⟩ _ k hk, Below.heap_setCell _ ⟨w.heap.size + 1, 2, none⟩ _ k hk, Below.heap_setCell _ ⟨w.heap.size + 1, 1, none⟩ _ k hk, Below.heap_setCell _ ⟨w.heap.size + 1, 0, none⟩ _ k hk]
  have hle : w.heap.size ≤ w.heap.size + 1 := Nat.le_succ _
  have hB2 := below_step hB1 hb2
  have hB := (((((hB2.setCell (p := ⟨w.heap.size + 1, 0, none⟩) hle (.slice A0 n0 k0)).setCell (p := ⟨w.heap.size + 1, 1, none⟩) hle (.map (some bm))).setCell (p := ⟨w.heap.size + 1, 2, none⟩) hle (.slice A2 n2 k2)).setCell (p := ⟨w.heap.size + 1, 3, none⟩) hle (.slice A3 n3 k3)).setCell (p := ⟨w.heap.size + 1, 4, none⟩) hle (.slice A4 n4 k4))
  clear y0 y1 y2 y3 y4
  generalize (((((w2).setCell ⟨w.heap.size + 1, 0, none⟩ (.slice A0 n0 k0)).setCell ⟨w.heap.size + 1, 1, none⟩ (.map (some bm))).setCell ⟨w.heap.size + 1, 2, none⟩ (.slice A2 n2 k2)).setCell ⟨w.heap.size + 1, 3, none⟩ (.slice A3 n3 k3)).setCell ⟨w.heap.size + 1, 4, none⟩ (.slice A4 n4 k4) = W9 at *
  exact ⟨_, rfl, (hP.move (w.heap.size + 1) (by omega) hr2 (by decide) (by decide) (by decide) hk).lower (by omega), hE, hB⟩
end
def impl_byRule.f (a0 : ByteArray) : Option (ByteArray) := none

/-! ### impl_paths_play: function 71 (given) -/
section
open Go Go.RowKit Go.Lib Go.Proofs.YtjgijaocinpkhaaDoorW.PrintWords Go.Proofs.YtjgijaocinpkhaaDoorW.PrintLast Go.Proofs.YtjgijaocinpkhaaDoor.Pm
/-- each text was found from one before it, in what impl_pathsFrom.walk finds (its own impl_pathsFrom.f is none) -/
def Par (E : List PEnt) : Prop := ∀ (j : Nat) (e : PEnt), E[j]? = some e → e.par < (j : Int)
theorem back_fuel {E : List PEnt} (hp : Par E) : ∀ (k k' j : Nat), j < k → j < k' → Bfs.back E k j = Bfs.back E k' j
  | 0, _, _, h, _ => by omega
  | _, 0, _, _, h => by omega
  | k + 1, k' + 1, j, h, h' => by
    unfold Bfs.back
    cases he : E[j]? with
    | none => rfl
    | some e =>
      simp only
      have := hp j e he
      by_cases h0 : e.par < 0
      · rw [if_pos h0, if_pos h0]
      · rw [if_neg h0, if_neg h0, back_fuel hp k k' e.par.toNat (by omega) (by omega)]
theorem back_go {E : List PEnt} (hp : Par E) {q p : Nat} {e : PEnt} (he : E[q]? = some e) (h : e.par = (p : Int)) : Bfs.back E (q + 1) q = e.mov :: Bfs.back E (p + 1) p := by
  have h1 := hp q e he
  have h2 : Bfs.back E (q + 1) q = e.mov :: Bfs.back E q e.par.toNat := by
    rw [Bfs.back, he]
    simp only
    rw [if_neg (by omega)]
  rw [h2, h, Int.toNat_natCast, back_fuel hp q (p + 1) p (by omega) (by omega)]
theorem back_end {E : List PEnt} {q : Nat} {e : PEnt} (he : E[q]? = some e) (h : e.par < 0) : Bfs.back E (q + 1) q = [] := by
  rw [Bfs.back, he]
  simp only
  rw [if_pos h]
theorem pars_rd {E : List PEnt} {i : Nat} {e : PEnt} (h : E[i]? = some e) : rdOf 0 (E.map (·.par)) (i : Int) = e.par := by
  unfold rdOf
  rw [Int.toNat_natCast, List.getD_eq_getElem?_getD, List.getElem?_map, h]
  rfl
theorem movs_rd {E : List PEnt} {i : Nat} {e : PEnt} (h : E[i]? = some e) : rd_T83 (E.map (·.mov)) (i : Int) = e.mov := by
  unfold rd_T83
  rw [Int.toNat_natCast, List.getD_eq_getElem?_getD, List.getElem?_map, h]
  rfl
def mvCells (m : S83) : List Value := [.int .i64 m.f0, .int .i64 m.f1]
theorem impl_paths_play.rev {e base : Nat} (w : World) (A : Option Addr) (c : Nat) (l : List S83) (h : Kd.R k83 e w base (fun _ => True) (.slice A l.length c) l) (hl : l.length ≤ 1000000000) :
    Calls Tryd.prog 97 #[.slice A l.length c] w fun ee w' => ee = .returned (.tuple #[]) ∧ Kd.R k83 e w' base (fun _ => True) (.slice A l.length c) l.reverse ∧ w.grownBy w' (Value.slice A l.length c).ownBlock :=
  haveI : Inhabited S83 := ⟨⟨0, 0⟩⟩
  Rev.reverse_call (enc := mvCells) Tryd.laysRev (fun _ => by kernel_rfl) (fun _ => by kernel_rfl) (fun _ => rfl) (fun x v hv => by
    unfold mvCells at hv
    simp only [List.mem_cons, List.not_mem_nil, or_false] at hv
    rcases hv with rfl | rfl <;> rfl) k83 rfl (fun _ _ _ _ _ hm => k83_openM hm) (fun w b ok x => k83_mkM w b ok x) h hl
set_option maxHeartbeats 4000000 in
set_option maxRecDepth 1000000 in
theorem impl_paths_play.no_ (v : Value) (E : List PEnt) (y : ByteArray) (hy : y.size ≤ 1000) (w0 w : World) (hP : PathsAt w0 w v E) (hn : inN y (Bfs.nodes E) = false) :
    Calls Tryd.prog 71 #[v, .string y] w fun e w' => e = .returned (.tuple #[.slice none 0 0, .bool false]) ∧ Below w.heap.size w w' := by
  obtain ⟨bm, v0, v2, v3, v4, rfl, hl, hm, r0, r2, r3, r4, hne⟩ := hP
  have hu := Tryd.underlying67
  obtain ⟨A0, n0, k0, z0⟩ := R_any r0
  obtain ⟨A2, n2, k2, z2⟩ := R_any r2
  obtain ⟨A3, n3, k3, z3⟩ := R_any r3
  obtain ⟨A4, n4, k4, z4⟩ := R_any r4
  subst z0; subst z2; subst z3; subst z4
  obtain ⟨cl, hlook, _⟩ := (hm.alloc (.cells #[(.slice A0 n0 k0), .map (some bm), (.slice A2 n2 k2), (.slice A3 n3 k3), (.slice A4 n4 k4)] 67 (0, 0))).look (T := 64) Tryd.underlying9 Tryd.underlying64 Tryd.underlying3 (by kernel_rfl) y (by unfold maxLen; omega)
  rw [hn] at hlook
  have hB := below_alloc (Below.refl w.heap.size w) (.cells #[(.slice A0 n0 k0), .map (some bm), (.slice A2 n2 k2), (.slice A3 n3 k3), (.slice A4 n4 k4)] 67 (0, 0))
  clear r0 r2 r3 r4 hne hm
  go_enter Tryd.func71, Tryd.ntmps71
  go_wp2
  go_ret2
  exact ⟨rfl, hB⟩
set_option maxHeartbeats 4000000 in
set_option maxRecDepth 1000000 in
theorem impl_paths_play.walk (v : Value) (E : List PEnt) (y : ByteArray) (hy : y.size ≤ 1000) (w0 w : World) (hP : PathsAt w0 w v E) (hE : E.length ≤ 1000000) (hp : Par E) (j : Nat) (hj : (Bfs.nodes E)[j]? = some y) :
    Calls Tryd.prog 71 #[v, .string y] w fun e w' => (∃ v', e = .returned (.tuple #[v', .bool true]) ∧ Kd.R k83 83 w' w.heap.size (fun _ => True) v' (Bfs.back E (j + 1) j).reverse) ∧ Below w.heap.size w w' := by
  obtain ⟨bm, v0, v2, v3, v4, rfl, hl, hm, r0, r2, r3, r4, hne⟩ := hP
  have hu := Tryd.underlying67
  have hjl : j < E.length := by
    have := (List.getElem?_eq_some_iff.1 hj).1
    rwa [nodes_len] at this
  obtain ⟨A0, n0, k0, z0⟩ := R_any r0
  obtain ⟨g2, k2, z2⟩ := R_form r2 (by rw [List.length_map]; omega)
  obtain ⟨g3, k3, z3⟩ := R_form r3 (by rw [List.length_map]; omega)
  obtain ⟨A4, n4, k4, z4⟩ := R_any r4
  rw [List.length_map] at z2 z3
  subst z0; subst z2; subst z3; subst z4
  obtain ⟨cl, hlook, hcl⟩ := (hm.alloc (.cells #[(.slice A0 n0 k0), .map (some bm), (.slice (some ⟨g2, 0, none⟩) E.length k2), (.slice (some ⟨g3, 0, none⟩) E.length k3), (.slice A4 n4 k4)] 67 (0, 0))).look (T := 64) Tryd.underlying9 Tryd.underlying64 Tryd.underlying3 (by kernel_rfl) y (by unfold maxLen; omega)
  rw [inN_iff.2 (List.mem_of_getElem? hj), hcl j hj] at hlook
  have hB := below_alloc (Below.refl w.heap.size w) (.cells #[(.slice A0 n0 k0), .map (some bm), (.slice (some ⟨g2, 0, none⟩) E.length k2), (.slice (some ⟨g3, 0, none⟩) E.length k3), (.slice A4 n4 k4)] 67 (0, 0))
  have hb := blk_new w (.cells #[(.slice A0 n0 k0), .map (some bm), (.slice (some ⟨g2, 0, none⟩) E.length k2), (.slice (some ⟨g3, 0, none⟩) E.length k3), (.slice A4 n4 k4)] 67 (0, 0))
  have R2 := Aside0.mk r2
  have R3 := Aside0.mk r3
  have HE := Aside0.mk hE
  have HPar := Aside0.mk hp
  clear r0 r2 r3 r4 hne hm hcl hj hp
  go_enter Tryd.func71, Tryd.ntmps71
  go_wp2_with (first
    | ((with_reducible refine gate_dst (N := 18) rfl ?_); refine Kd.R_lit (w0 := w) k83 w.heap.size 83 ?hg (N := 18) ?hd (xs := ([] : List S83)) (inner := []) (ok := fun _ => True) (okp := fun _ => True) ?hr ?hp (fun _ hk => hk) trivial hB (below_size hB) (by simp) ?_; (case hd => rfl); (case hg => rfl); (case hr => first | (go_simp; done) | (go_simp; rfl)); (case hp => exact (Reps.none _ _)); intro v8 w1 ho1 hb1 hg1 hx1; have hb2 := blk_grown hb hg1 (by simp); clear hx1 hg1 hlook hb hB))
  go_loopw [6, 8] (fun x6 x8 wr => ∃ (q : Nat) (l : List S83), x6 = .int .i64 (q : Int) ∧ q < E.length ∧ Aside0 (Kd.R k83 83 wr w.heap.size (fun _ => True) x8 l) ∧ Hid (l ++ Bfs.back E (q + 1) q = Bfs.back E (j + 1) j) ∧ Aside0 (Below w.heap.size w wr) ∧
      Aside0 (wr.heap[w.heap.size]? = some (.cells #[(.slice A0 n0 k0), .map (some bm), (.slice (some ⟨g2, 0, none⟩) E.length k2), (.slice (some ⟨g3, 0, none⟩) E.length k3), (.slice A4 n4 k4)] 67 (0, 0))) ∧ Hid (l.length + q ≤ j)) (fun x6 _ _ => (RowKit.intOf x6).toNat)
  case atStart => exact ⟨j, [], rfl, hjl, Aside0.mk ho1, Lib.hid (List.nil_append _), Aside0.mk hb1, Aside0.mk hb2, Lib.hid (by simp)⟩
  case round =>
    clear ho1 hb1 hb2
    obtain ⟨q, l, rfl, hq, HR, HL, HB, HX, HN⟩ := hrel
    obtain ⟨e, he⟩ : ∃ e, E[q]? = some e := ⟨_, List.getElem?_eq_getElem hq⟩
    have hq0 : (0 : Int) ≤ (q : Int) := Int.natCast_nonneg _
    have hqd : decide ((q : Int) < (E.length : Int)) = true := decide_eq_true (by omega)
    have hc := R_icell (Kd.R_below R2.out HB.out) (q : Int) hq0 (by omega)
    rw [Int.toNat_natCast, pars_rd he] at hc
    have hx1 : wr.cell? ⟨w.heap.size, 2, none⟩ = some (.slice (some ⟨g2, 0, none⟩) E.length k2) := (blk_cell HX.out 2).trans rfl
    have hx2 : wr.cell? ⟨w.heap.size, 3, none⟩ = some (.slice (some ⟨g3, 0, none⟩) E.length k3) := (blk_cell HX.out 3).trans rfl
    by_cases h0 : e.par < 0
    · have hd1 : decide (e.par ≥ 0) = false := decide_eq_false (by omega)
      have hd2 : decide (0 ≤ e.par) = false := decide_eq_false (by omega)
      have hll : l = Bfs.back E (j + 1) j := by
        have := HL.out
        rw [back_end he h0, List.append_nil] at this
        exact this
      obtain ⟨A8, k8, z8⟩ := Kd.R_slice HR.out
      subst z8
      have hHN := HN.out
      have HLL := Lib.hid hll
      clear HN HL hll
      go_wp2_with (first | (go_at_call 97; refine (impl_paths_play.rev wr A8 k8 l HR.out (by omega)).mono ?_; rintro e' w3 ⟨rfl, hr3, hg3⟩))
      go_ret2
      refine ⟨⟨_, rfl, ?_⟩, HB.out.grown hg3 HB.out.size (fun k hk => Kd.R_base HR.out k hk)⟩
      rw [← HLL.out]
      exact hr3
    · obtain ⟨p, hp⟩ : ∃ p : Nat, e.par = (p : Int) := ⟨e.par.toNat, by omega⟩
      have hpq : p < q := by have := HPar.out q e he; omega
      have hd1 : decide ((p : Int) ≥ 0) = true := decide_eq_true (by omega)
      have hd2 : decide ((0 : Int) ≤ (p : Int)) = true := decide_eq_true (by omega)
      have hbk := back_go HPar.out he hp
      rw [hp] at hc
      obtain ⟨ad, ead, hy0, hy1⟩ := at_T83 (Kd.R_reads' (Kd.R_below R3.out HB.out)).2.2 (q : Int) (by omega) (by rw [List.length_map]; omega)
      rw [Int.toNat_natCast, movs_rd he] at hy0 hy1
      cases ead
      replace hy0 : wr.cell? ⟨g3, q * 2, none⟩ = some (.int .i64 e.mov.f0) := by rw [Addr.add_lit, Nat.zero_add] at hy0; exact hy0
      replace hy1 : wr.cell? ⟨g3, q * 2 + 1, none⟩ = some (.int .i64 e.mov.f1) := by rw [Addr.add_lit, Nat.zero_add] at hy1; exact hy1
      have hHE := HE.out
      have hHN := HN.out
      have HL2 : Hid ((l ++ [e.mov]) ++ Bfs.back E (p + 1) p = Bfs.back E (j + 1) j) := Lib.hid (by rw [← HL.out, hbk, List.append_assoc, List.singleton_append])
      obtain ⟨m, hmm⟩ : ∃ m, m = e.mov := ⟨_, rfl⟩
      rw [← hmm] at hy0 hy1 HL2
      clear hbk HN HL hmm
      go_wp2_with (first
        | ((with_reducible refine gate_builtin (b := .append) (xs := #[.tmp 30, .tmp 36]) rfl ?_); at_builtin; refine Kd.R_append k83 (w0 := w) w.heap.size rfl (.tmp 30) (.tmp 36) 46 83 (.agg #[.int .i64 0, .int .i64 0]) 16 rfl Tryd.underlying46 (by kernel_rfl) rfl (by decide) (by decide) _ l m [.int .i64 m.f0, .int .i64 m.f1] (fun _ => True) (fun _ => False) rfl rfl (k83_mkM _ _ _ m) (fun _ hk => hk.elim) (fun _ _ => trivial) HR.out HB.out HB.out.size (by omega) ?_; intro u3 w3 ho3 hb3 hg3 hat3; have hX3 := blk_grown HX.out hg3 (Kd.R_ne HR.out HX.out (by decide)); have hz1 : w3.cell? ⟨w.heap.size, 2, none⟩ = some (.slice (some ⟨g2, 0, none⟩) E.length k2) := (blk_cell hX3 2).trans rfl; have hc3 := R_icell (Kd.R_below R2.out hb3) (q : Int) hq0 (by omega); rw [Int.toNat_natCast, pars_rd he, hp] at hc3))
      exact ⟨⟨p, l ++ [m], rfl, by omega, Aside0.mk ho3, HL2, Aside0.mk hb3, Aside0.mk hX3, Lib.hid (by rw [List.length_append, List.length_singleton]; omega)⟩, by simp [RowKit.intOf]; omega⟩
end
def impl_paths_play.f (a0 : Int) : Option (Int) := none
theorem impl_paths_play.calls : True := trivial

/-! ### impl_FirstShortest: function 43 (given) -/
section
open Go Go.RowKit Go.Lib Go.Proofs.YtjgijaocinpkhaaDoorW.PrintWords Go.Proofs.YtjgijaocinpkhaaDoorW.PrintLast Go.Proofs.YtjgijaocinpkhaaDoor.Pm
theorem visitO_par {i d : Nat} {x : ByteArray} : ∀ (l : List S83) (E E' : List PEnt), visitO i d x l E = some E' → i < E.length → Par E → Par E' ∧ E.length ≤ E'.length
  | [], E, E', h, _, hp => by
    cases h
    exact ⟨hp, Nat.le_refl _⟩
  | m :: r, E, E', h, hi, hp => by
    rw [visitO] at h
    obtain ⟨y, _, h⟩ := Option.bind_eq_some_iff.mp h
    split at h
    case isFalse => cases h
    split at h
    · exact visitO_par r E E' h hi hp
    · split at h
      case isFalse => cases h
      obtain ⟨h1, h2⟩ := visitO_par r _ E' h (by rw [List.length_append]; omega) (fun j e he => by
        rcases Bfs.get_snoc he with he | ⟨rfl, rfl⟩
        · exact hp j e he
        · show (i : Int) < (E.length : Int)
          omega)
      rw [List.length_append] at h2
      exact ⟨h1, by omega⟩
theorem pathsO_par {M : ByteArray → Option (List S83)} : ∀ (k i : Nat) (E E' : List PEnt), pathsO M k i E = some E' → Par E → Par E'
  | 0, _, _, _, h, _ => by cases h
  | k + 1, i, E, E', h, hp => by
    rw [pathsO] at h
    cases he : E[i]? with
    | none =>
      rw [he] at h
      cases h
      exact hp
    | some e =>
      rw [he] at h
      simp only at h
      obtain ⟨ms, _, h⟩ := Option.bind_eq_some_iff.mp h
      split at h
      case isFalse => cases h
      obtain ⟨E1, hv, h⟩ := Option.bind_eq_some_iff.mp h
      exact pathsO_par k (i + 1) E1 E' h (visitO_par ms E E1 hv (Bfs.get_lt he) hp).1
theorem par_root (a : ByteArray) : Par [⟨a, -1, ⟨0, 0⟩, 0⟩] := fun j e he => by
  cases j with
  | zero => cases he; exact (by decide : (-1 : Int) < 0)
  | succ j => simp at he
theorem byRuleO_par {K : Nat} {a : ByteArray} {o b l : Bool} {E : List PEnt} (h : byRuleO K a o b l = some E) : Par E := by
  unfold byRuleO at h
  split at h
  · exact pathsO_par K 0 _ E h (par_root a)
  · cases h
/-- where a text stands first -/
def ixOf (y : ByteArray) (N : List ByteArray) : Nat := N.findIdx fun x => decide (x = y)
theorem ixOf_at {y : ByteArray} {N : List ByteArray} (h : y ∈ N) : N[ixOf y N]? = some y := by
  have hl : ixOf y N < N.length := List.findIdx_lt_length_of_exists ⟨y, h, by simp⟩
  have hp := List.findIdx_getElem (w := hl)
  rw [List.getElem?_eq_getElem hl]
  exact congrArg some (of_decide_eq_true hp)
/-- the first shortest way to a text -/
def playE (E : List PEnt) (y : ByteArray) : List S83 × Bool := if inN y (Bfs.nodes E) = true then ((Bfs.back E (ixOf y (Bfs.nodes E) + 1) (ixOf y (Bfs.nodes E))).reverse, true) else ([], false)
theorem playE_calls (v : Value) (E : List PEnt) (y : ByteArray) (hy : y.size ≤ 1000) (w0 w : World) (hP : PathsAt w0 w v E) (hE : E.length ≤ 1000000) (hp : Par E) :
    Calls Tryd.prog 71 #[v, .string y] w fun e w' => (∃ v', e = .returned (.tuple #[v', .bool (playE E y).2]) ∧ Kd.R k83 83 w' w.heap.size (fun _ => True) v' (playE E y).1) ∧ Below w.heap.size w w' := by
  cases hin : inN y (Bfs.nodes E) with
  | false =>
    have e : playE E y = ([], false) := by unfold playE; rw [if_neg (by rw [hin]; decide)]
    rw [e]
    exact (impl_paths_play.no_ v E y hy w0 w hP hin).mono fun e w' h => ⟨⟨_, h.1, Kd.R_nil _ _ _ _ _⟩, h.2⟩
  | true =>
    have e : playE E y = ((Bfs.back E (ixOf y (Bfs.nodes E) + 1) (ixOf y (Bfs.nodes E))).reverse, true) := by unfold playE; rw [if_pos hin]
    rw [e]
    exact impl_paths_play.walk v E y hy w0 w hP hE hp _ (ixOf_at (inN_iff.1 hin))
set_option maxHeartbeats 4000000 in
set_option maxRecDepth 1000000 in
theorem impl_FirstShortest.no1 (a c : ByteArray) (o b l : Bool) (w : World) (h : impl_isReachLine.f a = some false) :
    Calls Tryd.prog 43 #[.string a, .string c, .agg #[.bool o, .bool b, .bool l]] w fun e w' => e = .returned (.tuple #[.slice none 0 0, .bool false]) ∧ Below w.heap.size w w' := by
  go_enter Tryd.func43, Tryd.ntmps43
  go_wp2_with (first
    | (go_at_call 57; refine (impl_isReachLine.calls a false _ h).mono ?_; rintro e w1 ⟨rfl, hx⟩; have hb1 := below_step (below_alloc (Below.refl _ _) _) hx))
  go_ret2
  exact ⟨rfl, hb1⟩
set_option maxHeartbeats 4000000 in
set_option maxRecDepth 1000000 in
theorem impl_FirstShortest.no2 (a c : ByteArray) (o b l : Bool) (w : World) (h : impl_isReachLine.f a = some true) (h2 : impl_isReachLine.f c = some false) :
    Calls Tryd.prog 43 #[.string a, .string c, .agg #[.bool o, .bool b, .bool l]] w fun e w' => e = .returned (.tuple #[.slice none 0 0, .bool false]) ∧ Below w.heap.size w w' := by
  go_enter Tryd.func43, Tryd.ntmps43
  go_wp2_with (first
    | (go_at_call 57; refine (impl_isReachLine.calls a true _ h).mono ?_; clear h; rintro e w1 ⟨rfl, hx⟩; have hb1 := below_step (below_alloc (Below.refl _ _) _) hx; clear hx)
    | (go_at_call 57; refine (impl_isReachLine.calls c false _ h2).mono ?_; rintro e w2 ⟨rfl, hx⟩; have hb2 := below_step hb1 hx))
  go_ret2
  exact ⟨rfl, hb2⟩
set_option maxHeartbeats 4000000 in
set_option maxRecDepth 1000000 in
theorem impl_FirstShortest.walk (K : Nat) (a c : ByteArray) (hc : c.size ≤ 1000) (o b l : Bool) (E : List PEnt) (w : World) (h : impl_isReachLine.f a = some true) (h2 : impl_isReachLine.f c = some true) (hE : byRuleO K a o b l = some E) :
    Calls Tryd.prog 43 #[.string a, .string c, .agg #[.bool o, .bool b, .bool l]] w fun e w' => (∃ v', e = .returned (.tuple #[v', .bool (playE E c).2]) ∧ Kd.R k83 83 w' w.heap.size (fun _ => True) v' (playE E c).1) ∧ Below w.heap.size w w' := by
  have HPar := Aside0.mk (byRuleO_par hE)
  go_enter Tryd.func43, Tryd.ntmps43
  go_wp2_with (first
    | (go_at_call 57; refine (impl_isReachLine.calls a true _ h).mono ?_; clear h; rintro e w1 ⟨rfl, hx⟩; have hb1 := below_step (below_alloc (Below.refl _ _) _) hx; have hbx := blk_below (blk_new w (.cells #[.bool o, .bool b, .bool l] 32 (0, 0))) hx; clear hx)
    | (go_at_call 57; refine (impl_isReachLine.calls c true _ h2).mono ?_; rintro e w2 ⟨rfl, hx⟩; have hb2 := below_step hb1 hx; have hby := blk_below hbx hx; have c0 : w2.cell? ⟨w.heap.size, 0, none⟩ = some (.bool o) := (blk_cell hby 0).trans rfl; have c1 : w2.cell? ⟨w.heap.size, 1, none⟩ = some (.bool b) := (blk_cell hby 1).trans rfl; have c2 : w2.cell? ⟨w.heap.size, 2, none⟩ = some (.bool l) := (blk_cell hby 2).trans rfl; clear hx)
    | (go_at_call 58; refine (impl_byRule.walk K a o b l E _ hE).mono ?_; rintro e w3 ⟨v, rfl, hP, hpe, hy⟩; have hb3 := below_step hb2 hy; have HC := Aside0.mk (playE_calls v E c hc _ _ hP hpe.len HPar.out); clear hP hpe hy)
    | (go_at_call 71; refine HC.out.mono ?_; rintro e w4 ⟨⟨v', rfl, hr⟩, hy⟩; have hb4 := below_step hb3 hy; have hr4 := Kd.R_lower hr hb3.size; obtain ⟨A4, k4, z4⟩ := Kd.R_slice hr4; subst z4; clear hy hr))
  go_ret2
  exact ⟨⟨_, rfl, hr4⟩, hb4⟩
end
/-- the first shortest way by a rule -/
def impl_FirstShortest.f (a0 a1 : ByteArray) (a2_0 a2_1 a2_2 : Bool) : Option (List (S83) × Bool) := (impl_isReachLine.f a0).bind fun r => if r = true then ((impl_isReachLine.f a1).bind fun q => if q = true then (if a1.size ≤ 1000 then ((byRuleO 100000 a0 a2_0 a2_1 a2_2).bind fun E => some (playE E a1)) else none) else some ([], false)) else some ([], false)
theorem impl_FirstShortest.calls (a0 a1 : ByteArray) (a2_0 a2_1 a2_2 : Bool) (r1 : List (S83)) (r2 : Bool) (w : World) (h : impl_FirstShortest.f a0 a1 a2_0 a2_1 a2_2 = some (r1, r2)) :
    Calls Tryd.prog 43 #[.string a0, .string a1, .agg #[.bool a2_0, .bool a2_1, .bool a2_2]] w fun e w' => ∃ v0_ : Value, e = .returned (.tuple #[v0_, .bool r2]) ∧ Go.Proofs.YtjgijaocinpkhaaDoorW.PrintWords.Kd.R k83 83 w' w.heap.size (fun _ => True) v0_ r1 ∧ Below w.heap.size w w' := by
  unfold impl_FirstShortest.f at h
  obtain ⟨r, hr, h⟩ := Option.bind_eq_some_iff.mp h
  cases r with
  | false =>
    rw [if_neg (by decide)] at h
    cases h
    exact (impl_FirstShortest.no1 a0 a1 _ _ _ w hr).mono fun e w' h => ⟨_, h.1, Go.Proofs.YtjgijaocinpkhaaDoorW.PrintWords.Kd.R_nil _ _ _ _ _, h.2⟩
  | true =>
    rw [if_pos rfl] at h
    obtain ⟨q, hq, h⟩ := Option.bind_eq_some_iff.mp h
    cases q with
    | false =>
      rw [if_neg (by decide)] at h
      cases h
      exact (impl_FirstShortest.no2 a0 a1 _ _ _ w hr hq).mono fun e w' h => ⟨_, h.1, Go.Proofs.YtjgijaocinpkhaaDoorW.PrintWords.Kd.R_nil _ _ _ _ _, h.2⟩
    | true =>
      rw [if_pos rfl] at h
      split at h
      · rename_i hs
        obtain ⟨E, hE, h⟩ := Option.bind_eq_some_iff.mp h
        have h1 : (playE E a1).1 = r1 := congrArg Prod.fst (Option.some.inj h)
        have h2 : (playE E a1).2 = r2 := congrArg Prod.snd (Option.some.inj h)
        subst h1
        subst h2
        exact (impl_FirstShortest.walk 100000 a0 a1 hs _ _ _ E w hr hq hE).mono fun e w' h => by
          obtain ⟨⟨v, e1, e2⟩, e3⟩ := h
          exact ⟨v, e1, e2, e3⟩
      · cases h

/-! ### impl_ShortestByRule: function 34 -/
def impl_ShortestByRule.f (a0 : ByteArray) (a1 : ByteArray) (a2_0 : Bool) (a2_1 : Bool) (a2_2 : Bool) : Option (Int × Bool) := (impl_FirstShortest.f a0 a1 a2_0 a2_1 a2_2).bind fun bt173 => (some ((bt173.1.length : Int), bt173.2))
set_option maxHeartbeats 8000000 in
set_option maxRecDepth 100000 in
theorem impl_ShortestByRule.calls (a0 : ByteArray) (a1 : ByteArray) (a2_0 : Bool) (a2_1 : Bool) (a2_2 : Bool) (r1 : Int) (r2 : Bool) (w : World) (h : impl_ShortestByRule.f a0 a1 a2_0 a2_1 a2_2 = some (r1, r2)) :
    Calls Tryd.prog 34 #[.string a0, .string a1, .agg #[.bool a2_0, .bool a2_1, .bool a2_2]] w fun e w' => e = .returned (.tuple #[.int .i64 r1, .bool r2]) ∧ Below w.heap.size w w' := by
  have hu32 := Tryd.underlying32
  have HB := Aside0.mk (Below.refl w.heap.size w)
  have H : ((impl_FirstShortest.f a0 a1 a2_0 a2_1 a2_2).bind fun bt173 => (some ((bt173.1.length : Int), bt173.2))) = some (r1, r2) := h
  clear h
  replace H := Option.bind_eq_some_iff.mp H
  obtain ⟨⟨t173, t176⟩, A40, H⟩ := H
  replace H : (some ((t173.length : Int), t176)) = some (r1, r2) := H
  have A4 := Aside0.mk A40
  clear A40
  simp only [Option.some.injEq, Prod.mk.injEq] at H
  obtain ⟨rfl, rfl⟩ := H
  go_enter Tryd.func34, Tryd.ntmps34
  go_wp2_with (first | ((with_reducible refine gate_dst (N := 5) rfl ?_); refine box_event ?hg (N := 5) ?hd (cs := #[.bool a2_0, .bool a2_1, .bool a2_2]) (t := 32) ?hr ?_; (case hd => rfl); (case hg => rfl); (case hr => first | (go_simp; done) | (go_simp; rfl)); intro gb172 hg w5 hbox hb; have n0_ := Aside0.mk (below_step (by repeat (first | (with_reducible first | exact HB.out | apply below_alloc | apply pw_below_drewN | apply below_drew1) | exact HB.out)) hb); have n1_ := Aside0.mk (hbox); have n2_ := Aside0.mk ((by rw [hg]; exact (below_size (by repeat (first | (with_reducible first | exact HB.out | apply below_alloc | apply pw_below_drewN | apply below_drew1) | exact HB.out))) : w.heap.size ≤ gb172)); have n3_ := Aside0.mk ((by rw [hg]; exact (below_size (by repeat (first | (with_reducible first | exact HB.out | apply below_alloc | apply pw_below_drewN | apply below_drew1) | exact HB.out))) : w.heap.size ≤ gb172)); clear HB; have HB := n0_; have BK172 := n1_; have GW172 := n2_; have GE172 := n3_; clear n0_ n1_ n2_ n3_; clear hb hbox hg; have hcz6_0 : w5.cell? ⟨gb172, 0, none⟩ = some (.bool a2_0) := (blk_cell BK172.out 0).trans rfl; have hcz6_1 : w5.cell? ⟨gb172, 1, none⟩ = some (.bool a2_1) := (blk_cell BK172.out 1).trans rfl; have hcz6_2 : w5.cell? ⟨gb172, 2, none⟩ = some (.bool a2_2) := (blk_cell BK172.out 2).trans rfl; have hfz6_0 := blk_frozen BK172.out 0; have hfz6_1 := blk_frozen BK172.out 1; have hfz6_2 := blk_frozen BK172.out 2) | ((with_reducible refine gate_callee (f := 43) rfl ?_); refine goesL_ (some 14) rfl rfl Tryd.func43 (by kernel_rfl) rfl #[.string a0, .string a1, .agg #[.bool a2_0, .bool a2_1, .bool a2_2]] rfl (by (try simp only [List.map_toArray, List.map_cons, List.map_nil]); first | done | rfl | (simp only [List.length_drop, List.length_take]; rfl)) ?_; (with_reducible refine (impl_FirstShortest.calls a0 a1 a2_0 a2_1 a2_2 t173 t176 _ A4.out).mono ?_); rintro e w7 ⟨v174, rfl, ho0, hb⟩; refine ⟨_, rfl, ?_⟩; have n0_ := Aside0.mk (Kd.R_lower ho0 (below_size (by repeat (first | (with_reducible first | exact HB.out | apply below_alloc | apply pw_below_drewN | apply below_drew1 | refine below_set ?_ GE172.out) | exact HB.out)))); have n1_ := Aside0.mk (blk_below (g := gb172) (o := .cells #[.bool a2_0, .bool a2_1, .bool a2_2] 32 (0, 0)) (by (with_reducible repeat (first | refine blk_drewN ?_ _ | refine blk_drew ?_ | refine blk_alloc ?_ _)); exact BK172.out) hb); have n2_ := Aside0.mk (below_step (by repeat (first | (with_reducible first | exact HB.out | apply below_alloc | apply pw_below_drewN | apply below_drew1 | refine below_set ?_ GE172.out) | exact HB.out)) hb); clear BK172; clear HB; have HO175 := n0_; have BK172 := n1_; have HB := n2_; clear n0_ n1_ n2_; (try clear hb); (try clear hb2); (try clear hk); (try clear hi); (try clear ho0); obtain ⟨Ao8, co8, eo8⟩ := Kd.R_slice HO175.out; subst eo8))
  go_ret2
  exact ⟨by first | rfl | (simp [errW_none, errW_some] <;> rfl) | (simp [*, errW_none, errW_some] <;> rfl), by repeat (first | (with_reducible first | exact HB.out | apply below_alloc | apply pw_below_drewN | apply below_drew1 | refine below_set ?_ GE172.out) | exact HB.out)⟩

/-! ### impl_areCounts: function 78 -/
def impl_areCounts.f (a0 : Int) (a1 : Int) (a2 : Int) (a3 : Int) : Option (Bool) := (impl_within.f a0 0 a3).bind fun t177 => (if t177 = true then ((impl_within.f a1 0 a3).bind fun t178 => (if t178 = true then ((impl_within.f a2 0 a3).bind fun t179 => (if t179 = true then ((impl_within.f (wrap64 ((wrap64 (a0 + a1)) + a2)) 1 a3).bind fun t180 => (some t180)) else (some false))) else (some false))) else (some false))
set_option maxHeartbeats 8000000 in
set_option maxRecDepth 100000 in
theorem impl_areCounts.calls (a0 : Int) (a1 : Int) (a2 : Int) (a3 : Int) (r : Bool) (w : World) (h : impl_areCounts.f a0 a1 a2 a3 = some r) :
    Calls Tryd.prog 78 #[.int .i64 a0, .int .i64 a1, .int .i64 a2, .int .i64 a3] w fun e w' => e = .returned (.bool r) ∧ Drawn0 w w' := by
  have H : ((impl_within.f a0 0 a3).bind fun t177 => (if t177 = true then ((impl_within.f a1 0 a3).bind fun t178 => (if t178 = true then ((impl_within.f a2 0 a3).bind fun t179 => (if t179 = true then ((impl_within.f (wrap64 ((wrap64 (a0 + a1)) + a2)) 1 a3).bind fun t180 => (some t180)) else (some false))) else (some false))) else (some false))) = some r := h
  clear h
  replace H := Option.bind_eq_some_iff.mp H
  obtain ⟨t177, A50, H⟩ := H
  replace H : (if t177 = true then ((impl_within.f a1 0 a3).bind fun t178 => (if t178 = true then ((impl_within.f a2 0 a3).bind fun t179 => (if t179 = true then ((impl_within.f (wrap64 ((wrap64 (a0 + a1)) + a2)) 1 a3).bind fun t180 => (some t180)) else (some false))) else (some false))) else (some false)) = some r := H
  have A5 := Aside0.mk A50
  clear A50
  by_cases c6 : t177 = true
  · subst c6
    have H1 : ((impl_within.f a1 0 a3).bind fun t178 => (if t178 = true then ((impl_within.f a2 0 a3).bind fun t179 => (if t179 = true then ((impl_within.f (wrap64 ((wrap64 (a0 + a1)) + a2)) 1 a3).bind fun t180 => (some t180)) else (some false))) else (some false))) = some r := by rw [if_pos rfl] at H; exact H
    clear H
    have H := H1
    clear H1
    replace H := Option.bind_eq_some_iff.mp H
    obtain ⟨t178, A70, H⟩ := H
    replace H : (if t178 = true then ((impl_within.f a2 0 a3).bind fun t179 => (if t179 = true then ((impl_within.f (wrap64 ((wrap64 (a0 + a1)) + a2)) 1 a3).bind fun t180 => (some t180)) else (some false))) else (some false)) = some r := H
    have A7 := Aside0.mk A70
    clear A70
    by_cases c8 : t178 = true
    · subst c8
      have H1 : ((impl_within.f a2 0 a3).bind fun t179 => (if t179 = true then ((impl_within.f (wrap64 ((wrap64 (a0 + a1)) + a2)) 1 a3).bind fun t180 => (some t180)) else (some false))) = some r := by rw [if_pos rfl] at H; exact H
      clear H
      have H := H1
      clear H1
      replace H := Option.bind_eq_some_iff.mp H
      obtain ⟨t179, A90, H⟩ := H
      replace H : (if t179 = true then ((impl_within.f (wrap64 ((wrap64 (a0 + a1)) + a2)) 1 a3).bind fun t180 => (some t180)) else (some false)) = some r := H
      have A9 := Aside0.mk A90
      clear A90
      by_cases c10 : t179 = true
      · subst c10
        have H1 : ((impl_within.f (wrap64 ((wrap64 (a0 + a1)) + a2)) 1 a3).bind fun t180 => (some t180)) = some r := by rw [if_pos rfl] at H; exact H
        clear H
        have H := H1
        clear H1
        replace H := Option.bind_eq_some_iff.mp H
        obtain ⟨t180, A110, H⟩ := H
        replace H : (some t180) = some r := H
        have A11 := Aside0.mk A110
        clear A110
        obtain rfl := Option.some.inj H
        go_enter Tryd.func78, Tryd.ntmps78
        go_wp2_with (first | ((with_reducible refine gate_callee (f := 102) rfl ?_); refine goesL_ (some 11) rfl rfl Tryd.func102 (by kernel_rfl) rfl #[.int .i64 a0, .int .i64 0, .int .i64 a3] rfl (by (try simp only [List.map_toArray, List.map_cons, List.map_nil]); first | done | rfl | (simp only [List.length_drop, List.length_take]; rfl)) ?_; (with_reducible refine (impl_within.calls a0 0 a3 true _ A5.out).mono ?_); rintro e w' ⟨rfl, ⟨nd, rfl⟩⟩; refine ⟨_, rfl, ?_⟩) | (go_at_call 102; (with_reducible refine (impl_within.calls a1 0 a3 true _ A7.out).mono ?_); rintro e w' ⟨rfl, ⟨nd, rfl⟩⟩) | (go_at_call 102; (with_reducible refine (impl_within.calls a2 0 a3 true _ A9.out).mono ?_); rintro e w' ⟨rfl, ⟨nd, rfl⟩⟩) | (go_at_call 102; (try refine Go.Proofs.YtjgijaocinpkhaaDoorXW.calls_args64 (by simp only [Go.Proofs.YtjgijaocinpkhaaDoorXW.wrapEq]; rfl) ?_); (with_reducible refine (impl_within.calls (wrap64 ((wrap64 (a0 + a1)) + a2)) 1 a3 t180 _ A11.out).mono ?_); rintro e w' ⟨rfl, ⟨nd, rfl⟩⟩))
        go_ret
        exact ⟨by first | rfl | (simp; done) | (simp [*]; done), by repeat (first | exact Drawn0.refl _ | apply Drawn0.step)⟩
      · replace c10 := Bool.eq_false_iff.mpr c10
        subst c10
        have H1 : (some false) = some r := by rw [if_neg (show ¬ (false = true) by decide)] at H; exact H
        clear H
        have H := H1
        clear H1
        obtain rfl := Option.some.inj H
        go_enter Tryd.func78, Tryd.ntmps78
        go_wp2_with (first | ((with_reducible refine gate_callee (f := 102) rfl ?_); refine goesL_ (some 11) rfl rfl Tryd.func102 (by kernel_rfl) rfl #[.int .i64 a0, .int .i64 0, .int .i64 a3] rfl (by (try simp only [List.map_toArray, List.map_cons, List.map_nil]); first | done | rfl | (simp only [List.length_drop, List.length_take]; rfl)) ?_; (with_reducible refine (impl_within.calls a0 0 a3 true _ A5.out).mono ?_); rintro e w' ⟨rfl, ⟨nd, rfl⟩⟩; refine ⟨_, rfl, ?_⟩) | (go_at_call 102; (with_reducible refine (impl_within.calls a1 0 a3 true _ A7.out).mono ?_); rintro e w' ⟨rfl, ⟨nd, rfl⟩⟩) | (go_at_call 102; (with_reducible refine (impl_within.calls a2 0 a3 false _ A9.out).mono ?_); rintro e w' ⟨rfl, ⟨nd, rfl⟩⟩))
        go_ret
        exact ⟨by first | rfl | (simp; done) | (simp [*]; done), by repeat (first | exact Drawn0.refl _ | apply Drawn0.step)⟩
    · replace c8 := Bool.eq_false_iff.mpr c8
      subst c8
      have H1 : (some false) = some r := by rw [if_neg (show ¬ (false = true) by decide)] at H; exact H
      clear H
      have H := H1
      clear H1
      obtain rfl := Option.some.inj H
      go_enter Tryd.func78, Tryd.ntmps78
      go_wp2_with (first | ((with_reducible refine gate_callee (f := 102) rfl ?_); refine goesL_ (some 11) rfl rfl Tryd.func102 (by kernel_rfl) rfl #[.int .i64 a0, .int .i64 0, .int .i64 a3] rfl (by (try simp only [List.map_toArray, List.map_cons, List.map_nil]); first | done | rfl | (simp only [List.length_drop, List.length_take]; rfl)) ?_; (with_reducible refine (impl_within.calls a0 0 a3 true _ A5.out).mono ?_); rintro e w' ⟨rfl, ⟨nd, rfl⟩⟩; refine ⟨_, rfl, ?_⟩) | (go_at_call 102; (with_reducible refine (impl_within.calls a1 0 a3 false _ A7.out).mono ?_); rintro e w' ⟨rfl, ⟨nd, rfl⟩⟩))
      go_ret
      exact ⟨by first | rfl | (simp; done) | (simp [*]; done), by repeat (first | exact Drawn0.refl _ | apply Drawn0.step)⟩
  · replace c6 := Bool.eq_false_iff.mpr c6
    subst c6
    have H1 : (some false) = some r := by rw [if_neg (show ¬ (false = true) by decide)] at H; exact H
    clear H
    have H := H1
    clear H1
    obtain rfl := Option.some.inj H
    go_enter Tryd.func78, Tryd.ntmps78
    go_wp2_with (first | ((with_reducible refine gate_callee (f := 102) rfl ?_); refine goesL_ (some 11) rfl rfl Tryd.func102 (by kernel_rfl) rfl #[.int .i64 a0, .int .i64 0, .int .i64 a3] rfl (by (try simp only [List.map_toArray, List.map_cons, List.map_nil]); first | done | rfl | (simp only [List.length_drop, List.length_take]; rfl)) ?_; (with_reducible refine (impl_within.calls a0 0 a3 false _ A5.out).mono ?_); rintro e w' ⟨rfl, ⟨nd, rfl⟩⟩; refine ⟨_, rfl, ?_⟩))
    go_ret
    exact ⟨by first | rfl | (simp; done) | (simp [*]; done), by repeat (first | exact Drawn0.refl _ | apply Drawn0.step)⟩

/-! ### impl_ordered: function 103 -/
def impl_ordered.f (a0 : Int) (a1 : Int) (a2 : Int) (a3 : Int) (a4 : Int) : Option (ByteArray) := (strings_Repeat.f (Utf8.encode a0) a1).bind fun t181 => ((strings_Repeat.f (⟨#[46]⟩ : ByteArray) a2).bind fun t182 => (if t181.size + t182.size ≤ 9223372036854775807 then ((strings_Repeat.f (Utf8.encode a3) a4).bind fun t183 => (if (t181 ++ t182).size + t183.size ≤ 9223372036854775807 then (some ((t181 ++ t182) ++ t183)) else (none))) else (none)))
set_option maxHeartbeats 8000000 in
set_option maxRecDepth 100000 in
theorem impl_ordered.calls (a0 : Int) (a1 : Int) (a2 : Int) (a3 : Int) (a4 : Int) (r : ByteArray) (w : World) (h : impl_ordered.f a0 a1 a2 a3 a4 = some r) :
    Calls Tryd.prog 103 #[.int .u8 a0, .int .i64 a1, .int .i64 a2, .int .u8 a3, .int .i64 a4] w fun e w' => e = .returned (.string r) ∧ Below w.heap.size w w' := by
  have HB := Aside0.mk (Below.refl w.heap.size w)
  have H : ((strings_Repeat.f (Utf8.encode a0) a1).bind fun t181 => ((strings_Repeat.f (⟨#[46]⟩ : ByteArray) a2).bind fun t182 => (if t181.size + t182.size ≤ 9223372036854775807 then ((strings_Repeat.f (Utf8.encode a3) a4).bind fun t183 => (if (t181 ++ t182).size + t183.size ≤ 9223372036854775807 then (some ((t181 ++ t182) ++ t183)) else (none))) else (none)))) = some r := h
  clear h
  replace H := Option.bind_eq_some_iff.mp H
  obtain ⟨t181, A60, H⟩ := H
  replace H : ((strings_Repeat.f (⟨#[46]⟩ : ByteArray) a2).bind fun t182 => (if t181.size + t182.size ≤ 9223372036854775807 then ((strings_Repeat.f (Utf8.encode a3) a4).bind fun t183 => (if (t181 ++ t182).size + t183.size ≤ 9223372036854775807 then (some ((t181 ++ t182) ++ t183)) else (none))) else (none))) = some r := H
  have A6 := Aside0.mk A60
  clear A60
  replace H := Option.bind_eq_some_iff.mp H
  obtain ⟨t182, A70, H⟩ := H
  replace H : (if t181.size + t182.size ≤ 9223372036854775807 then ((strings_Repeat.f (Utf8.encode a3) a4).bind fun t183 => (if (t181 ++ t182).size + t183.size ≤ 9223372036854775807 then (some ((t181 ++ t182) ++ t183)) else (none))) else (none)) = some r := H
  have A7 := Aside0.mk A70
  clear A70
  by_cases c8 : t181.size + t182.size ≤ 9223372036854775807
  · rw [if_pos c8] at H
    have c8b0 := eq_true c8
    have c8b1 : decide (t181.size + t182.size ≤ 9223372036854775807) = true := decide_eq_true c8
    try have c8b2 : (9223372036854775807 < t181.size + t182.size) = False := eq_false (Nat.not_lt.2 c8)
    replace H := Option.bind_eq_some_iff.mp H
    obtain ⟨t183, A90, H⟩ := H
    replace H : (if (t181 ++ t182).size + t183.size ≤ 9223372036854775807 then (some ((t181 ++ t182) ++ t183)) else (none)) = some r := H
    have A9 := Aside0.mk A90
    clear A90
    by_cases c10 : (t181 ++ t182).size + t183.size ≤ 9223372036854775807
    · rw [if_pos c10] at H
      have c10b0 := eq_true c10
      have c10b1 : decide ((t181 ++ t182).size + t183.size ≤ 9223372036854775807) = true := decide_eq_true c10
      (try simp only [ByteArray.size_append, Int.natCast_add] at c10b1)
      try have c10b2 : (9223372036854775807 < (t181 ++ t182).size + t183.size) = False := eq_false (Nat.not_lt.2 c10)
      (try simp only [ByteArray.size_append] at c10b0)
      (try simp only [ByteArray.size_append] at c10b1)
      (try simp only [ByteArray.size_append] at c10b2)
      obtain rfl := Option.some.inj H
      go_enter Tryd.func103, Tryd.ntmps103
      go_wp2_with (first | ((with_reducible refine gate_callee (f := 111) rfl ?_); refine goesL_ (some 14) rfl rfl Tryd.func111 (by kernel_rfl) rfl #[.string (Utf8.encode a0), .int .i64 a1] rfl (by (try simp only [List.map_toArray, List.map_cons, List.map_nil]); first | done | rfl | (simp only [List.length_drop, List.length_take]; rfl)) ?_; (with_reducible refine (strings_Repeat.calls (Utf8.encode a0) a1 t181 _ A6.out).mono ?_); rintro e w11 ⟨rfl, hb⟩; refine ⟨_, rfl, ?_⟩; have n0_ := Aside0.mk (below_step (by repeat (first | (with_reducible first | exact HB.out | apply below_alloc | apply pw_below_drewN | apply below_drew1) | exact HB.out)) hb); clear HB; have HB := n0_; clear n0_; (try clear hb); (try clear hb2); (try clear hk); (try clear hi)) | ((with_reducible refine gate_callee (f := 111) rfl ?_); refine goesL_ (some 16) rfl rfl Tryd.func111 (by kernel_rfl) rfl #[.string (⟨#[46]⟩ : ByteArray), .int .i64 a2] rfl (by (try simp only [List.map_toArray, List.map_cons, List.map_nil]); first | done | rfl | (simp only [List.length_drop, List.length_take]; rfl)) ?_; (with_reducible refine (strings_Repeat.calls (⟨#[46]⟩ : ByteArray) a2 t182 _ A7.out).mono ?_); rintro e w12 ⟨rfl, hb⟩; refine ⟨_, rfl, ?_⟩; have n0_ := Aside0.mk (below_step (by repeat (first | (with_reducible first | exact HB.out | apply below_alloc | apply pw_below_drewN | apply below_drew1) | exact HB.out)) hb); clear HB; have HB := n0_; clear n0_; (try clear hb); (try clear hb2); (try clear hk); (try clear hi)) | ((with_reducible refine gate_callee (f := 111) rfl ?_); refine goesL_ (some 21) rfl rfl Tryd.func111 (by kernel_rfl) rfl #[.string (Utf8.encode a3), .int .i64 a4] rfl (by (try simp only [List.map_toArray, List.map_cons, List.map_nil]); first | done | rfl | (simp only [List.length_drop, List.length_take]; rfl)) ?_; (with_reducible refine (strings_Repeat.calls (Utf8.encode a3) a4 t183 _ A9.out).mono ?_); rintro e w13 ⟨rfl, hb⟩; refine ⟨_, rfl, ?_⟩; have n0_ := Aside0.mk (below_step (by repeat (first | (with_reducible first | exact HB.out | apply below_alloc | apply pw_below_drewN | apply below_drew1) | exact HB.out)) hb); clear HB; have HB := n0_; clear n0_; (try clear hb); (try clear hb2); (try clear hk); (try clear hi)))
      go_ret
      exact ⟨by first | rfl | (simp [errW_none, errW_some] <;> rfl) | (simp [*, errW_none, errW_some] <;> rfl), by repeat (first | (with_reducible first | exact HB.out | apply below_alloc | apply pw_below_drewN | apply below_drew1) | exact HB.out)⟩
    · rw [if_neg c10] at H
      exact absurd H (by simp)
  · rw [if_neg c8] at H
    exact absurd H (by simp)

/-! ### impl_first: function 79 -/
def impl_first.f (a0 : Int) (a1 : Int) (a2 : Int) : Option (ByteArray) := (impl_ordered.f 84 a0 a1 70 a2).bind fun t184 => (some t184)
set_option maxHeartbeats 8000000 in
set_option maxRecDepth 100000 in
theorem impl_first.calls (a0 : Int) (a1 : Int) (a2 : Int) (r : ByteArray) (w : World) (h : impl_first.f a0 a1 a2 = some r) :
    Calls Tryd.prog 79 #[.int .i64 a0, .int .i64 a1, .int .i64 a2] w fun e w' => e = .returned (.string r) ∧ Below w.heap.size w w' := by
  have HB := Aside0.mk (Below.refl w.heap.size w)
  have H : ((impl_ordered.f 84 a0 a1 70 a2).bind fun t184 => (some t184)) = some r := h
  clear h
  replace H := Option.bind_eq_some_iff.mp H
  obtain ⟨t184, A40, H⟩ := H
  replace H : (some t184) = some r := H
  have A4 := Aside0.mk A40
  clear A40
  obtain rfl := Option.some.inj H
  go_enter Tryd.func79, Tryd.ntmps79
  go_wp2_with (first | ((with_reducible refine gate_callee (f := 103) rfl ?_); refine goesL_ (some 10) rfl rfl Tryd.func103 (by kernel_rfl) rfl #[.int .u8 84, .int .i64 a0, .int .i64 a1, .int .u8 70, .int .i64 a2] rfl (by (try simp only [List.map_toArray, List.map_cons, List.map_nil]); first | done | rfl | (simp only [List.length_drop, List.length_take]; rfl)) ?_; (with_reducible refine (impl_ordered.calls 84 a0 a1 70 a2 t184 _ A4.out).mono ?_); rintro e w5 ⟨rfl, hb⟩; refine ⟨_, rfl, ?_⟩; have n0_ := Aside0.mk (below_step (by repeat (first | (with_reducible first | exact HB.out | apply below_alloc | apply pw_below_drewN | apply below_drew1) | exact HB.out)) hb); clear HB; have HB := n0_; clear n0_; (try clear hb); (try clear hb2); (try clear hk); (try clear hi)))
  go_ret
  exact ⟨by first | rfl | (simp [errW_none, errW_some] <;> rfl) | (simp [*, errW_none, errW_some] <;> rfl), by repeat (first | (with_reducible first | exact HB.out | apply below_alloc | apply pw_below_drewN | apply below_drew1) | exact HB.out)⟩

end Go.Proofs.YtjgijaocinpkhaaDoor.XI
