/- The Lean functions that the Go functions of this seat compute, each with the proof that the Go function computes it, for every input (laws: FnExactBothWays). Conditions: none beyond those that each theorem names. Written by a program of this session over the kit's printer. -/
import Derived.Test.YtjgijaocinpkhaaDoorT2XT0
import Derived.Test.YtjgijaocinpkhaaDoorT2XT3
import Derived.Test.YtjgijaocinpkhaaDoorT2XT4
import Derived.Test.YtjgijaocinpkhaaDoorT2XT6
namespace Go.Proofs.YtjgijaocinpkhaaDoor.XT
open Go.RowKit Go.Proofs.YtjgijaocinpkhaaDoorW.PrintWords Go.Proofs.YtjgijaocinpkhaaDoorW.PrintLast Go.Proofs.YtjgijaocinpkhaaDoorW.PrintMore
attribute [local go_sem] max2_int min2_int max_two min_two max_three min_three max_four min_four   -- for this text's walks alone
attribute [local go_sem] Lib.run_min_strs Go.Proofs.YtjgijaocinpkhaaDoorXW.run_min2_strs Go.Proofs.YtjgijaocinpkhaaDoorXW.run_int_string
set_option linter.unusedVariables false
set_option linter.unusedSimpArgs false

/-! ### spec_ruBack: function 67 -/
mutual
def spec_ruBack.l0 : Nat → List ByteArray → Int → Bool → Bool → Bool → List ByteArray → List Int → Option (List ByteArray × List Int)
  | 0, _, _, _, _, _, _, _ => none
  | k + 1, x6, x7, x166000, x166001, x166002, x174000, x174001 => if x7 < (x174000.length : Int) then (if 0 ≤ x7 then (spec_ruBack.l1 k x6 x7 (rdOf ByteArray.empty x174000 x7) x166000 x166001 x166002 x174000 x174001 0 (rdOf ByteArray.empty x174000 x7)) else (none)) else (some (x174000, x174001))
def spec_ruBack.l1 : Nat → List ByteArray → Int → ByteArray → Bool → Bool → Bool → List ByteArray → List Int → Int → ByteArray → Option (List ByteArray × List Int)
  | 0, _, _, _, _, _, _, _, _, _, _ => none
  | k + 1, x6, x7, x8, x166000, x166001, x166002, x174000, x174001, x100033000, x100033001 => if 0 ≤ x100033000 then (if x100033000 < (x100033001.size : Int) then (if bt x100033001 x100033000 < 128 then (spec_ruBack.l2 k x6 x7 x8 x100033000 x166000 x166001 x166002 x174000 x174001 (x100033000 + 1) x100033001 0 x8) else (none)) else (spec_ruBack.l0 k x6 (wrap64 (x7 + 1)) x166000 x166001 x166002 x174000 x174001)) else (none)
def spec_ruBack.l2 : Nat → List ByteArray → Int → ByteArray → Int → Bool → Bool → Bool → List ByteArray → List Int → Int → ByteArray → Int → ByteArray → Option (List ByteArray × List Int)
  | 0, _, _, _, _, _, _, _, _, _, _, _, _, _ => none
  | k + 1, x6, x7, x8, x9, x166000, x166001, x166002, x174000, x174001, x100033000, x100033001, x100038000, x100038001 => if 0 ≤ x100038000 then (if x100038000 < (x100038001.size : Int) then (if bt x100038001 x100038000 < 128 then (if 0 ≤ x9 then (if x9 < (x8.size : Int) then (if (bt x8 x9) = 46 then (spec_ruBack.j3 k x6 x7 x8 x9 x100038000 true x166000 x166001 x166002 x174000 x174001 x100033000 x100033001 (x100038000 + 1) x100038001) else (if x100038000 < (x8.size : Int) then (spec_ruBack.j3 k x6 x7 x8 x9 x100038000 ((bt x8 x100038000) != 46) x166000 x166001 x166002 x174000 x174001 x100033000 x100033001 (x100038000 + 1) x100038001) else (none))) else (none)) else (none)) else (none)) else (spec_ruBack.l1 k x6 x7 x8 x166000 x166001 x166002 x174000 x174001 x100033000 x100033001)) else (none)
def spec_ruBack.j3 : Nat → List ByteArray → Int → ByteArray → Int → Int → Bool → Bool → Bool → Bool → List ByteArray → List Int → Int → ByteArray → Int → ByteArray → Option (List ByteArray × List Int)
  | 0, _, _, _, _, _, _, _, _, _, _, _, _, _, _, _ => none
  | k + 1, x6, x7, x8, x9, x10, x50, x166000, x166001, x166002, x174000, x174001, x100033000, x100033001, x100038000, x100038001 => if x50 = true then (spec_ruBack.l2 k x6 x7 x8 x9 x166000 x166001 x166002 x174000 x174001 x100033000 x100033001 x100038000 x100038001) else ((spec_liMake.f x8 x9 x10).bind fun t178 => ((spec_ruCan.f k t178 x10 x9 x166000 x166001 x166002).bind fun t179 => (if t179 = true then ((spec_reAdd.f k x6 t178).bind fun t180 => (if (t180.length : Int) = (x6.length : Int) then (spec_ruBack.l2 k x6 x7 x8 x9 x166000 x166001 x166002 x174000 x174001 x100033000 x100033001 x100038000 x100038001) else (if x174000.length < 8796093022208 then (if 0 ≤ x7 then (if x7 < (x174001.length : Int) then (if x174001.length < 17592186044416 then (spec_ruBack.l2 k t180 x7 x8 x9 x166000 x166001 x166002 (x174000 ++ [t178]) (x174001 ++ [wrap64 ((rd x174001 x7) + 1)]) x100033000 x100033001 x100038000 x100038001) else (none)) else (none)) else (none)) else (none)))) else (spec_ruBack.l2 k x6 x7 x8 x9 x166000 x166001 x166002 x174000 x174001 x100033000 x100033001 x100038000 x100038001))))
end
def spec_ruBack.f (k : Nat) (a0 : ByteArray) (a1_0 : Bool) (a1_1 : Bool) (a1_2 : Bool) : Option (List ByteArray × List Int) := spec_ruBack.l0 k (([a0] : List ByteArray)) 0 a1_0 a1_1 a1_2 (([a0] : List ByteArray)) (([0] : List Int))
theorem spec_ruBack.mono_l : ∀ k, (∀ y0 y1 y2 y3 y4 y5 y6, LeO (spec_ruBack.l0 k y0 y1 y2 y3 y4 y5 y6) (spec_ruBack.l0 (k + 1) y0 y1 y2 y3 y4 y5 y6)) ∧ (∀ y0 y1 y2 y3 y4 y5 y6 y7 y8 y9, LeO (spec_ruBack.l1 k y0 y1 y2 y3 y4 y5 y6 y7 y8 y9) (spec_ruBack.l1 (k + 1) y0 y1 y2 y3 y4 y5 y6 y7 y8 y9)) ∧ (∀ y0 y1 y2 y3 y4 y5 y6 y7 y8 y9 y10 y11 y12, LeO (spec_ruBack.l2 k y0 y1 y2 y3 y4 y5 y6 y7 y8 y9 y10 y11 y12) (spec_ruBack.l2 (k + 1) y0 y1 y2 y3 y4 y5 y6 y7 y8 y9 y10 y11 y12)) ∧ (∀ y0 y1 y2 y3 y4 y5 y6 y7 y8 y9 y10 y11 y12 y13 y14, LeO (spec_ruBack.j3 k y0 y1 y2 y3 y4 y5 y6 y7 y8 y9 y10 y11 y12 y13 y14) (spec_ruBack.j3 (k + 1) y0 y1 y2 y3 y4 y5 y6 y7 y8 y9 y10 y11 y12 y13 y14))
  | 0 => ⟨fun _ _ _ _ _ _ _ r h => by simp [spec_ruBack.l0] at h, fun _ _ _ _ _ _ _ _ _ _ r h => by simp [spec_ruBack.l1] at h, fun _ _ _ _ _ _ _ _ _ _ _ _ _ r h => by simp [spec_ruBack.l2] at h, fun _ _ _ _ _ _ _ _ _ _ _ _ _ _ _ r h => by simp [spec_ruBack.j3] at h⟩
  | k + 1 => by
    obtain ⟨ih0, ih1, ih2, ih3⟩ := spec_ruBack.mono_l k
    refine ⟨?_, ?_, ?_, ?_⟩
    · intro y0 y1 y2 y3 y4 y5 y6
      unfold spec_ruBack.l0
      repeat' first
      | (with_reducible exact ih0 _ _ _ _ _ _ _)
      | (with_reducible exact ih1 _ _ _ _ _ _ _ _ _ _)
      | (with_reducible exact ih2 _ _ _ _ _ _ _ _ _ _ _ _ _)
      | (with_reducible exact ih3 _ _ _ _ _ _ _ _ _ _ _ _ _ _ _)
      | (with_reducible exact spec_reAdd.mono _ _ _)
      | (with_reducible exact spec_ruCan.mono _ _ _ _ _ _ _)
      | (with_reducible exact LeO.refl _)
      | (with_reducible exact LeO.none _)
      | (with_reducible refine LeO.ite ?_ ?_)
      | (with_reducible refine LeO.bind ?_ (fun _ => ?_))
      | exact ih0 _ _ _ _ _ _ _
      | exact ih1 _ _ _ _ _ _ _ _ _ _
      | exact ih2 _ _ _ _ _ _ _ _ _ _ _ _ _
      | exact ih3 _ _ _ _ _ _ _ _ _ _ _ _ _ _ _
      | exact spec_reAdd.mono _ _ _
      | exact spec_ruCan.mono _ _ _ _ _ _ _
      | exact LeO.none _
      | refine LeO.ite ?_ ?_
      | refine LeO.bind ?_ (fun _ => ?_)
    · intro y0 y1 y2 y3 y4 y5 y6 y7 y8 y9
      unfold spec_ruBack.l1
      repeat' first
      | (with_reducible exact ih0 _ _ _ _ _ _ _)
      | (with_reducible exact ih1 _ _ _ _ _ _ _ _ _ _)
      | (with_reducible exact ih2 _ _ _ _ _ _ _ _ _ _ _ _ _)
      | (with_reducible exact ih3 _ _ _ _ _ _ _ _ _ _ _ _ _ _ _)
      | (with_reducible exact spec_reAdd.mono _ _ _)
      | (with_reducible exact spec_ruCan.mono _ _ _ _ _ _ _)
      | (with_reducible exact LeO.refl _)
      | (with_reducible exact LeO.none _)
      | (with_reducible refine LeO.ite ?_ ?_)
      | (with_reducible refine LeO.bind ?_ (fun _ => ?_))
      | exact ih0 _ _ _ _ _ _ _
      | exact ih1 _ _ _ _ _ _ _ _ _ _
      | exact ih2 _ _ _ _ _ _ _ _ _ _ _ _ _
      | exact ih3 _ _ _ _ _ _ _ _ _ _ _ _ _ _ _
      | exact spec_reAdd.mono _ _ _
      | exact spec_ruCan.mono _ _ _ _ _ _ _
      | exact LeO.none _
      | refine LeO.ite ?_ ?_
      | refine LeO.bind ?_ (fun _ => ?_)
    · intro y0 y1 y2 y3 y4 y5 y6 y7 y8 y9 y10 y11 y12
      unfold spec_ruBack.l2
      repeat' first
      | (with_reducible exact ih0 _ _ _ _ _ _ _)
      | (with_reducible exact ih1 _ _ _ _ _ _ _ _ _ _)
      | (with_reducible exact ih2 _ _ _ _ _ _ _ _ _ _ _ _ _)
      | (with_reducible exact ih3 _ _ _ _ _ _ _ _ _ _ _ _ _ _ _)
      | (with_reducible exact spec_reAdd.mono _ _ _)
      | (with_reducible exact spec_ruCan.mono _ _ _ _ _ _ _)
      | (with_reducible exact LeO.refl _)
      | (with_reducible exact LeO.none _)
      | (with_reducible refine LeO.ite ?_ ?_)
      | (with_reducible refine LeO.bind ?_ (fun _ => ?_))
      | exact ih0 _ _ _ _ _ _ _
      | exact ih1 _ _ _ _ _ _ _ _ _ _
      | exact ih2 _ _ _ _ _ _ _ _ _ _ _ _ _
      | exact ih3 _ _ _ _ _ _ _ _ _ _ _ _ _ _ _
      | exact spec_reAdd.mono _ _ _
      | exact spec_ruCan.mono _ _ _ _ _ _ _
      | exact LeO.none _
      | refine LeO.ite ?_ ?_
      | refine LeO.bind ?_ (fun _ => ?_)
    · intro y0 y1 y2 y3 y4 y5 y6 y7 y8 y9 y10 y11 y12 y13 y14
      unfold spec_ruBack.j3
      repeat' first
      | (with_reducible exact ih0 _ _ _ _ _ _ _)
      | (with_reducible exact ih1 _ _ _ _ _ _ _ _ _ _)
      | (with_reducible exact ih2 _ _ _ _ _ _ _ _ _ _ _ _ _)
      | (with_reducible exact ih3 _ _ _ _ _ _ _ _ _ _ _ _ _ _ _)
      | (with_reducible exact spec_reAdd.mono _ _ _)
      | (with_reducible exact spec_ruCan.mono _ _ _ _ _ _ _)
      | (with_reducible exact LeO.refl _)
      | (with_reducible exact LeO.none _)
      | (with_reducible refine LeO.ite ?_ ?_)
      | (with_reducible refine LeO.bind ?_ (fun _ => ?_))
      | exact ih0 _ _ _ _ _ _ _
      | exact ih1 _ _ _ _ _ _ _ _ _ _
      | exact ih2 _ _ _ _ _ _ _ _ _ _ _ _ _
      | exact ih3 _ _ _ _ _ _ _ _ _ _ _ _ _ _ _
      | exact spec_reAdd.mono _ _ _
      | exact spec_ruCan.mono _ _ _ _ _ _ _
      | exact LeO.none _
      | refine LeO.ite ?_ ?_
      | refine LeO.bind ?_ (fun _ => ?_)
theorem spec_ruBack.mono : ∀ a0 a1 a2 a3 k, LeO (spec_ruBack.f k a0 a1 a2 a3) (spec_ruBack.f (k + 1) a0 a1 a2 a3) := by
  intro a0 a1 a2 a3 k
  obtain ⟨ih0, ih1, ih2, ih3⟩ := spec_ruBack.mono_l k
  unfold spec_ruBack.f
  repeat' first
      | (with_reducible exact ih0 _ _ _ _ _ _ _)
      | (with_reducible exact ih1 _ _ _ _ _ _ _ _ _ _)
      | (with_reducible exact ih2 _ _ _ _ _ _ _ _ _ _ _ _ _)
      | (with_reducible exact ih3 _ _ _ _ _ _ _ _ _ _ _ _ _ _ _)
      | (with_reducible exact spec_reAdd.mono _ _ _)
      | (with_reducible exact spec_ruCan.mono _ _ _ _ _ _ _)
      | (with_reducible exact LeO.refl _)
      | (with_reducible exact LeO.none _)
      | (with_reducible refine LeO.ite ?_ ?_)
      | (with_reducible refine LeO.bind ?_ (fun _ => ?_))
      | exact ih0 _ _ _ _ _ _ _
      | exact ih1 _ _ _ _ _ _ _ _ _ _
      | exact ih2 _ _ _ _ _ _ _ _ _ _ _ _ _
      | exact ih3 _ _ _ _ _ _ _ _ _ _ _ _ _ _ _
      | exact spec_reAdd.mono _ _ _
      | exact spec_ruCan.mono _ _ _ _ _ _ _
      | exact LeO.none _
      | refine LeO.ite ?_ ?_
      | refine LeO.bind ?_ (fun _ => ?_)
def spec_ruBack.T20 : Bool × List (List Nat × List Nat) := (true, [([], []), ([0], [0]), ([], []), ([2], [2]), ([], []), ([3, 4], [3, 4]), ([5], [5]), ([6], [6]), ([7], [7]), ([1, 8], [1, 8]), ([0, 1, 2, 3, 4, 5, 6, 7, 8, 9], []), ([10, 9, 9, 0, 1, 2, 3, 4, 5, 6, 7, 8, 9], [9, 10])])
def spec_ruBack.B20 : List Nat := [0, 1, 0, 4, 0, 28, 60, 124, 252, 511, 1023, 2047]
theorem spec_ruBack.tab20 : rtab .any (opsOf Tryd.f67 20) = spec_ruBack.T20 := by kernel_rfl
theorem spec_ruBack.bits20 : waitsOk spec_ruBack.T20.2 spec_ruBack.B20 = true := by kernel_rfl
set_option maxHeartbeats 8000000 in
set_option maxRecDepth 100000 in
theorem spec_ruBack.calls (k : Nat) (a0 : ByteArray) (a1_0 : Bool) (a1_1 : Bool) (a1_2 : Bool) (r1 : List ByteArray) (r2 : List Int) (w : World) (h : spec_ruBack.f k a0 a1_0 a1_1 a1_2 = some (r1, r2)) :
    Calls Tryd.prog 67 #[.string a0, .agg #[.bool a1_0, .bool a1_1, .bool a1_2]] w fun e w' => ∃ v0_ v1_ : Value, e = .returned (.agg #[v0_, v1_]) ∧ Kd.R Kd.string 9 w' w.heap.size (fun _ => True) v0_ r1 ∧ Kd.R (Kd.int .i64) 3 w' w.heap.size (fun _ => True) v1_ r2 ∧ Below w.heap.size w w' := by
  have hu32 := Tryd.underlying32
  have hu72 := Tryd.underlying72
  have hu83 := Tryd.underlying83
  have HB := Aside0.mk (Below.refl w.heap.size w)
  have H : (spec_ruBack.l0 k (([a0] : List ByteArray)) 0 a1_0 a1_1 a1_2 (([a0] : List ByteArray)) (([0] : List Int))) = some (r1, r2) := h
  clear h
  obtain ⟨y167, hy167⟩ : ∃ y_ : List ByteArray, y_ = (([a0] : List ByteArray)) := ⟨_, rfl⟩
  replace H : (spec_ruBack.l0 k (([a0] : List ByteArray)) 0 a1_0 a1_1 a1_2 y167 (([0] : List Int))) = some (r1, r2) := by first | (rw [hy167]; with_reducible exact H) | (have H2_ := (Option.bind_some _ _).symm.trans H; rw [hy167]; with_reducible exact H2_) | (have H2_ := (Option.bind_some _ _).symm.trans H; with_reducible exact H2_) | with_reducible exact H | (rw [hy167]; exact H) | exact H
  have Ny167 := Aside0.mk hy167
  clear hy167
  obtain ⟨y170, hy170⟩ : ∃ y_ : List Int, y_ = (([0] : List Int)) := ⟨_, rfl⟩
  replace H : (spec_ruBack.l0 k (([a0] : List ByteArray)) 0 a1_0 a1_1 a1_2 y167 y170) = some (r1, r2) := by first | (rw [hy170]; with_reducible exact H) | (have H2_ := (Option.bind_some _ _).symm.trans H; rw [hy170]; with_reducible exact H2_) | (have H2_ := (Option.bind_some _ _).symm.trans H; with_reducible exact H2_) | with_reducible exact H | (rw [hy170]; exact H) | exact H
  have Ny170 := Aside0.mk hy170
  clear hy170
  obtain ⟨y174, hy174⟩ : ∃ y_ : List ByteArray, y_ = (([a0] : List ByteArray)) := ⟨_, rfl⟩
  replace H : (spec_ruBack.l0 k y174 0 a1_0 a1_1 a1_2 y167 y170) = some (r1, r2) := by first | (rw [hy174]; with_reducible exact H) | (have H2_ := (Option.bind_some _ _).symm.trans H; rw [hy174]; with_reducible exact H2_) | (have H2_ := (Option.bind_some _ _).symm.trans H; with_reducible exact H2_) | with_reducible exact H | (rw [hy174]; exact H) | exact H
  have Ny174 := Aside0.mk hy174
  clear hy174
  have H' := Aside0.mk H
  clear H
  go_enter Tryd.func67, Tryd.ntmps67
  go_wp2_with (first | ((with_reducible refine gate_dst (N := 3) rfl ?_); refine box_event ?hg (N := 3) ?hd (cs := #[.bool a1_0, .bool a1_1, .bool a1_2]) (t := 32) ?hr ?_; (case hd => rfl); (case hg => rfl); (case hr => first | (go_simp; done) | (go_simp; rfl)); intro gb165 hg w3 hbox hb; have n0_ := Aside0.mk (below_step (by repeat (first | (with_reducible first | exact HB.out | apply below_alloc | apply pw_below_drewN | apply below_drew1) | exact HB.out)) hb); have n1_ := Aside0.mk (hbox); have n2_ := Aside0.mk ((by rw [hg]; exact (below_size (by repeat (first | (with_reducible first | exact HB.out | apply below_alloc | apply pw_below_drewN | apply below_drew1) | exact HB.out))) : w.heap.size ≤ gb165)); have n3_ := Aside0.mk ((by rw [hg]; exact (below_size (by repeat (first | (with_reducible first | exact HB.out | apply below_alloc | apply pw_below_drewN | apply below_drew1) | exact HB.out))) : w.heap.size ≤ gb165)); clear HB; have HB := n0_; have BK165 := n1_; have GW165 := n2_; have GE165 := n3_; clear n0_ n1_ n2_ n3_; clear hb hbox hg) | ((with_reducible refine gate_dst (N := 4) rfl ?_); refine box_event ?hg (N := 4) ?hd (cs := #[.slice none 0 0, .slice none 0 0]) (t := 72) ?hr ?_; (case hd => rfl); (case hg => rfl); (case hr => first | (go_simp; done) | (go_simp; rfl)); intro gb166 hg w4 hbox hb; have n0_ := Aside0.mk (blk_below (g := gb165) (o := .cells #[.bool a1_0, .bool a1_1, .bool a1_2] 32 (0, 0)) (by (with_reducible repeat (first | refine blk_drewN ?_ _ | refine blk_drew ?_ | refine blk_alloc ?_ _)); exact BK165.out) hb); have n1_ := Aside0.mk (below_step (by repeat (first | (with_reducible first | exact HB.out | apply below_alloc | apply pw_below_drewN | apply below_drew1 | refine below_set ?_ GE165.out) | exact HB.out)) hb); have n2_ := Aside0.mk (hbox); have n3_ := Aside0.mk ((by rw [hg]; exact (below_size (by repeat (first | (with_reducible first | exact HB.out | apply below_alloc | apply pw_below_drewN | apply below_drew1 | refine below_set ?_ GE165.out) | exact HB.out))) : w.heap.size ≤ gb166)); have n4_ := Aside0.mk ((by rw [hg]; exact (below_size (by repeat (first | (with_reducible first | exact HB.out | apply below_alloc | apply pw_below_drewN | apply below_drew1 | refine below_set ?_ GE165.out) | exact HB.out))) : w.heap.size ≤ gb166)); have n5_ := Aside0.mk ((by rw [hg]; exact Nat.ne_of_lt (blk_lt (g := gb165) (o := .cells #[.bool a1_0, .bool a1_1, .bool a1_2] 32 (0, 0)) (by (with_reducible repeat (first | refine blk_drewN ?_ _ | refine blk_drew ?_ | refine blk_alloc ?_ _)); exact BK165.out)) : gb165 ≠ gb166)); have n6_ := Aside0.mk ((by rw [hg]; exact Nat.ne_of_gt (blk_lt (g := gb165) (o := .cells #[.bool a1_0, .bool a1_1, .bool a1_2] 32 (0, 0)) (by (with_reducible repeat (first | refine blk_drewN ?_ _ | refine blk_drew ?_ | refine blk_alloc ?_ _)); exact BK165.out)) : gb166 ≠ gb165)); clear BK165; clear HB; have BK165 := n0_; have HB := n1_; have BK166 := n2_; have GW166 := n3_; have GE166 := n4_; have NB165_166 := n5_; have NB166_165 := n6_; clear n0_ n1_ n2_ n3_ n4_ n5_ n6_; clear hb hbox hg) | ((with_reducible refine gate_dst (N := 14) rfl ?_); refine Kd.R_lit Kd.string _ 9 ?hg (N := 14) ?hd (xs := ([a0] : List ByteArray)) (inner := [.string a0]) (ok := fun _ => True) (okp := fun _ => True) ?hr ?hp (fun _ hk => hk) trivial (Below.refl _ _) (Nat.le_refl _) (by simp) ?_; (case hd => rfl); (case hg => rfl); (case hr => first | (go_simp; done) | (go_simp; rfl)); (case hp => exact (Reps.one (show Kd.M Kd.string _ _ _ a0 [.string a0] from rfl) (Reps.none _ _))); intro v168 w5 ho6 hb hg_ hnew_; clear hg_ hnew_; (first | rw [← Ny167.out] at ho6 | (simp only [Int.reduceToNat] at ho6; rw [← Ny167.out] at ho6)); have n0_ := Aside0.mk (Kd.R_lower ho6 (below_size (by repeat (first | (with_reducible first | exact HB.out | apply below_alloc | apply pw_below_drewN | apply below_drew1 | refine below_set ?_ GE165.out | refine below_set ?_ GE166.out) | exact HB.out)))); have n1_ := Aside0.mk (blk_below (g := gb165) (o := .cells #[.bool a1_0, .bool a1_1, .bool a1_2] 32 (0, 0)) (by (with_reducible repeat (first | refine blk_drewN ?_ _ | refine blk_drew ?_ | refine blk_alloc ?_ _)); exact BK165.out) hb); have n2_ := Aside0.mk (blk_below (g := gb166) (o := .cells #[.slice none 0 0, .slice none 0 0] 72 (0, 0)) (by (with_reducible repeat (first | refine blk_drewN ?_ _ | refine blk_drew ?_ | refine blk_alloc ?_ _)); exact BK166.out) hb); have n3_ := Aside0.mk (below_step (by repeat (first | (with_reducible first | exact HB.out | apply below_alloc | apply pw_below_drewN | apply below_drew1 | refine below_set ?_ GE165.out | refine below_set ?_ GE166.out) | exact HB.out)) hb); clear BK165; clear BK166; clear HB; have HO169 := n0_; have BK165 := n1_; have BK166 := n2_; have HB := n3_; clear n0_ n1_ n2_ n3_; clear hb ho6) | ((with_reducible refine gate_dst (N := 15) rfl ?_); refine Kd.R_lit (Kd.int .i64) _ 3 ?hg (N := 15) ?hd (xs := ([0] : List Int)) (inner := [.int .i64 0]) (ok := fun _ => True) (okp := fun _ => True) ?hr ?hp (fun _ hk => hk) trivial (Below.refl _ _) (Nat.le_refl _) (by simp) ?_; (case hd => rfl); (case hg => rfl); (case hr => first | (go_simp; done) | (go_simp; rfl)); (case hp => exact (Reps.one (show Kd.M (Kd.int .i64) _ _ _ 0 [.int .i64 0] from rfl) (Reps.none _ _))); intro v171 w7 ho8 hb hg_ hnew_; clear hg_ hnew_; (first | rw [← Ny170.out] at ho8 | (simp only [Int.reduceToNat] at ho8; rw [← Ny170.out] at ho8)); have n0_ := Aside0.mk (Kd.R_below (by (with_reducible repeat (first | apply Kd.R_alloc | apply Kd.R_drewN | apply Kd.R_drew)); exact HO169.out) hb); have n1_ := Aside0.mk (Kd.R_lower ho8 (below_size (by repeat (first | (with_reducible first | exact HB.out | apply below_alloc | apply pw_below_drewN | apply below_drew1 | refine below_set ?_ GE165.out | refine below_set ?_ GE166.out) | exact HB.out)))); have n2_ := Aside0.mk (blk_below (g := gb165) (o := .cells #[.bool a1_0, .bool a1_1, .bool a1_2] 32 (0, 0)) (by (with_reducible repeat (first | refine blk_drewN ?_ _ | refine blk_drew ?_ | refine blk_alloc ?_ _)); exact BK165.out) hb); have n3_ := Aside0.mk (blk_below (g := gb166) (o := .cells #[.slice none 0 0, .slice none 0 0] 72 (0, 0)) (by (with_reducible repeat (first | refine blk_drewN ?_ _ | refine blk_drew ?_ | refine blk_alloc ?_ _)); exact BK166.out) hb); have n4_ := Aside0.mk (below_step (by repeat (first | (with_reducible first | exact HB.out | apply below_alloc | apply pw_below_drewN | apply below_drew1 | refine below_set ?_ GE165.out | refine below_set ?_ GE166.out) | exact HB.out)) hb); clear HO169; clear BK165; clear BK166; clear HB; have HO169 := n0_; have HO172 := n1_; have BK165 := n2_; have BK166 := n3_; have HB := n4_; clear n0_ n1_ n2_ n3_ n4_; clear hb ho8; obtain ⟨Ao9, co9, eo9⟩ := Kd.R_slice HO172.out; subst eo9; obtain ⟨Ao10, co10, eo10⟩ := Kd.R_slice HO169.out; subst eo10) | ((with_reducible refine gate_dst (N := 5) rfl ?_); refine box_event ?hg (N := 5) ?hd (cs := #[.slice none 0 0, .slice none 0 0]) (t := 72) ?hr ?_; (case hd => rfl); (case hg => rfl); (case hr => first | (go_simp; done) | (go_simp; rfl)); intro gb173 hg w11 hbox hb; have n0_ := Aside0.mk (Kd.R_below (by (with_reducible repeat (first | apply Kd.R_alloc | apply Kd.R_drewN | apply Kd.R_drew)); exact HO169.out) hb); have n1_ := Aside0.mk (Kd.R_below (by (with_reducible repeat (first | apply Kd.R_alloc | apply Kd.R_drewN | apply Kd.R_drew)); exact HO172.out) hb); have n2_ := Aside0.mk (blk_below (g := gb165) (o := .cells #[.bool a1_0, .bool a1_1, .bool a1_2] 32 (0, 0)) (by (with_reducible repeat (first | refine blk_drewN ?_ _ | refine blk_drew ?_ | refine blk_alloc ?_ _)); exact BK165.out) hb); have n3_ := Aside0.mk (blk_below (g := gb166) (o := .cells #[.slice none 0 0, .slice none 0 0] 72 (0, 0)) (by (with_reducible repeat (first | refine blk_drewN ?_ _ | refine blk_drew ?_ | refine blk_alloc ?_ _)); exact BK166.out) hb); have n4_ := Aside0.mk (below_step (by repeat (first | (with_reducible first | exact HB.out | apply below_alloc | apply pw_below_drewN | apply below_drew1 | refine below_set ?_ GE165.out | refine below_set ?_ GE166.out) | exact HB.out)) hb); have n5_ := Aside0.mk (hbox); have n6_ := Aside0.mk ((by rw [hg]; exact (below_size (by repeat (first | (with_reducible first | exact HB.out | apply below_alloc | apply pw_below_drewN | apply below_drew1 | refine below_set ?_ GE165.out | refine below_set ?_ GE166.out) | exact HB.out))) : w.heap.size ≤ gb173)); have n7_ := Aside0.mk ((by rw [hg]; exact (below_size (by repeat (first | (with_reducible first | exact HB.out | apply below_alloc | apply pw_below_drewN | apply below_drew1 | refine below_set ?_ GE165.out | refine below_set ?_ GE166.out) | exact HB.out))) : w.heap.size ≤ gb173)); have n8_ := Aside0.mk ((by rw [hg]; exact Nat.ne_of_lt (blk_lt (g := gb165) (o := .cells #[.bool a1_0, .bool a1_1, .bool a1_2] 32 (0, 0)) (by (with_reducible repeat (first | refine blk_drewN ?_ _ | refine blk_drew ?_ | refine blk_alloc ?_ _)); exact BK165.out)) : gb165 ≠ gb173)); have n9_ := Aside0.mk ((by rw [hg]; exact Nat.ne_of_gt (blk_lt (g := gb165) (o := .cells #[.bool a1_0, .bool a1_1, .bool a1_2] 32 (0, 0)) (by (with_reducible repeat (first | refine blk_drewN ?_ _ | refine blk_drew ?_ | refine blk_alloc ?_ _)); exact BK165.out)) : gb173 ≠ gb165)); have n10_ := Aside0.mk ((by rw [hg]; exact Nat.ne_of_lt (blk_lt (g := gb166) (o := .cells #[.slice none 0 0, .slice none 0 0] 72 (0, 0)) (by (with_reducible repeat (first | refine blk_drewN ?_ _ | refine blk_drew ?_ | refine blk_alloc ?_ _)); exact BK166.out)) : gb166 ≠ gb173)); have n11_ := Aside0.mk ((by rw [hg]; exact Nat.ne_of_gt (blk_lt (g := gb166) (o := .cells #[.slice none 0 0, .slice none 0 0] 72 (0, 0)) (by (with_reducible repeat (first | refine blk_drewN ?_ _ | refine blk_drew ?_ | refine blk_alloc ?_ _)); exact BK166.out)) : gb173 ≠ gb166)); clear HO169; clear HO172; clear BK165; clear BK166; clear HB; have HO169 := n0_; have HO172 := n1_; have BK165 := n2_; have BK166 := n3_; have HB := n4_; have BK173 := n5_; have GW173 := n6_; have GE173 := n7_; have NB165_173 := n8_; have NB173_165 := n9_; have NB166_173 := n10_; have NB173_166 := n11_; clear n0_ n1_ n2_ n3_ n4_ n5_ n6_ n7_ n8_ n9_ n10_ n11_; clear hb hbox hg; have hnb12 := NB173_165.out; have hnc12 := NB165_173.out; have hnb13 := NB173_166.out; have hnc13 := NB166_173.out; have hcz14_0 : w11.cell? ⟨gb173, 0, none⟩ = some (.slice none 0 0) := (blk_cell BK173.out 0).trans rfl; have hcz14_1 : w11.cell? ⟨gb173, 1, none⟩ = some (.slice none 0 0) := (blk_cell BK173.out 1).trans rfl; have hfz14_0 := blk_frozen BK173.out 0; have hfz14_1 := blk_frozen BK173.out 1) | ((with_reducible refine gate_dst (N := 18) rfl ?_); refine Kd.R_lit Kd.string _ 9 ?hg (N := 18) ?hd (xs := ([a0] : List ByteArray)) (inner := [.string a0]) (ok := fun _ => True) (okp := fun _ => True) ?hr ?hp (fun _ hk => hk) trivial (Below.refl _ _) (Nat.le_refl _) (by simp) ?_; (case hd => rfl); (case hg => rfl); (case hr => first | (go_simp; done) | (go_simp; rfl)); (case hp => exact (Reps.one (show Kd.M Kd.string _ _ _ a0 [.string a0] from rfl) (Reps.none _ _))); intro v175 w15 ho16 hb hg_ hnew_; clear hg_ hnew_; (first | rw [← Ny174.out] at ho16 | (simp only [Int.reduceToNat] at ho16; rw [← Ny174.out] at ho16)); have n0_ := Aside0.mk (Kd.R_elder' (by (with_reducible repeat (first | apply Kd.R_alloc | apply Kd.R_drewN | apply Kd.R_drew)); exact (Kd.R_mono (Kd.R_far (p := ⟨gb173, 1, none⟩) (Kd.R_far (p := ⟨gb173, 0, none⟩) (Kd.R_types HO169.out BK173.out (by decide)) (fun _ hk => hk.2) (.slice Ao10 y167.length co10)) (fun _ hk => hk.2) (.slice Ao9 y170.length co9)) (fun _ h_ => h_.1))) (Kd.R_base ho16) hb); have n1_ := Aside0.mk (Kd.R_below (by (with_reducible repeat (first | apply Kd.R_alloc | apply Kd.R_drewN | apply Kd.R_drew)); exact (Kd.R_mono (Kd.R_far (p := ⟨gb173, 1, none⟩) (Kd.R_far (p := ⟨gb173, 0, none⟩) (Kd.R_types HO172.out BK173.out (by decide)) (fun _ hk => hk.2) (.slice Ao10 y167.length co10)) (fun _ hk => hk.2) (.slice Ao9 y170.length co9)) (fun _ h_ => h_.1))) hb); have n2_ := Aside0.mk (Kd.R_lower (Kd.R_new' ho16 (Kd.R_lt (by (with_reducible repeat (first | apply Kd.R_alloc | apply Kd.R_drewN | apply Kd.R_drew)); exact (Kd.R_mono (Kd.R_far (p := ⟨gb173, 1, none⟩) (Kd.R_far (p := ⟨gb173, 0, none⟩) (Kd.R_types HO169.out BK173.out (by decide)) (fun _ hk => hk.2) (.slice Ao10 y167.length co10)) (fun _ hk => hk.2) (.slice Ao9 y170.length co9)) (fun _ h_ => h_.1))))) (below_size (by repeat (first | (with_reducible first | exact HB.out | apply below_alloc | apply pw_below_drewN | apply below_drew1 | refine below_set ?_ GE165.out | refine below_set ?_ GE166.out | refine below_set ?_ GE173.out) | exact HB.out)))); have n3_ := Aside0.mk (blk_below (g := gb165) (o := .cells #[.bool a1_0, .bool a1_1, .bool a1_2] 32 (0, 0)) (by (with_reducible repeat (first | refine blk_drewN ?_ _ | refine blk_drew ?_ | refine blk_alloc ?_ _)); refine blk_far ?_ NB165_173.out _; (with_reducible repeat (first | refine blk_drewN ?_ _ | refine blk_drew ?_ | refine blk_alloc ?_ _)); refine blk_far ?_ NB165_173.out _; (with_reducible repeat (first | refine blk_drewN ?_ _ | refine blk_drew ?_ | refine blk_alloc ?_ _)); exact BK165.out) hb); have n4_ := Aside0.mk (blk_below (g := gb166) (o := .cells #[.slice none 0 0, .slice none 0 0] 72 (0, 0)) (by (with_reducible repeat (first | refine blk_drewN ?_ _ | refine blk_drew ?_ | refine blk_alloc ?_ _)); refine blk_far ?_ NB166_173.out _; (with_reducible repeat (first | refine blk_drewN ?_ _ | refine blk_drew ?_ | refine blk_alloc ?_ _)); refine blk_far ?_ NB166_173.out _; (with_reducible repeat (first | refine blk_drewN ?_ _ | refine blk_drew ?_ | refine blk_alloc ?_ _)); exact BK166.out) hb); have n5_ := Aside0.mk (blk_below (g := gb173) (o := .cells #[.slice Ao10 y167.length co10, .slice Ao9 y170.length co9] 72 (0, 0)) (by (with_reducible repeat (first | refine blk_drewN ?_ _ | refine blk_drew ?_ | refine blk_alloc ?_ _)); refine blk_put (cs := #[.slice Ao10 y167.length co10, .slice none 0 0]) ?_ 1 _ rfl; (with_reducible repeat (first | refine blk_drewN ?_ _ | refine blk_drew ?_ | refine blk_alloc ?_ _)); refine blk_put (cs := #[.slice none 0 0, .slice none 0 0]) ?_ 0 _ rfl; (with_reducible repeat (first | refine blk_drewN ?_ _ | refine blk_drew ?_ | refine blk_alloc ?_ _)); exact BK173.out) hb); have n6_ := Aside0.mk (below_step (by repeat (first | (with_reducible first | exact HB.out | apply below_alloc | apply pw_below_drewN | apply below_drew1 | refine below_set ?_ GE165.out | refine below_set ?_ GE166.out | refine below_set ?_ GE173.out) | exact HB.out)) hb); clear HO169; clear HO172; clear BK165; clear BK166; clear BK173; clear HB; have HO169 := n0_; have HO172 := n1_; have HO176 := n2_; have BK165 := n3_; have BK166 := n4_; have BK173 := n5_; have HB := n6_; clear n0_ n1_ n2_ n3_ n4_ n5_ n6_; clear hb ho16))
  (try simp only [Act.put, List.setIfInBounds_toArray, List.set_cons_zero, List.set_cons_succ])
  go_loopg [6, 7] k (fun kq v6 v7 w' => ∃ (x6_1 : List ByteArray) (x7_1 : Int) (x174000_1 : List ByteArray) (x174001_1 : List Int) (u174000 : Value) (u174001 : Value), v7 = .int .i64 x7_1 ∧ Aside0 (spec_ruBack.l0 kq x6_1 x7_1 a1_0 a1_1 a1_2 x174000_1 x174001_1 = some (r1, r2)) ∧ Aside0 (kq ≤ k) ∧ Aside0 (Kd.V Kd.string 9 w' w.heap.size (fun k_ => some k_ ≠ (u174000 : Value).ownBlock ∧ some k_ ≠ (u174001 : Value).ownBlock ∧ k_ ≠ gb165 ∧ k_ ≠ gb166 ∧ k_ ≠ gb173) v6 x6_1) ∧ Aside0 (Kd.R Kd.string 9 w' w.heap.size (fun _ => True) u174000 x174000_1) ∧ Aside0 (Kd.R (Kd.int .i64) 3 w' w.heap.size (fun _ => True) u174001 x174001_1) ∧ Aside0 (w'.heap[gb165]? = some (.cells #[.bool a1_0, .bool a1_1, .bool a1_2] 32 (0, 0))) ∧ Aside0 (w'.heap[gb166]? = some (.cells #[(.slice none 0 0), (.slice none 0 0)] 72 (0, 0))) ∧ Aside0 (w'.heap[gb173]? = some (.cells #[u174000, u174001] 72 (0, 0))) ∧ Aside0 (Below w.heap.size w w'))
  case atStart => exact ⟨(y174), (0), (y167), (y170), (.slice Ao10 y167.length co10), (.slice Ao9 y170.length co9), (by first | rfl | (simp; done) | (simp [*]; done)), H', ⟨Nat.le_refl _⟩, ⟨Kd.R_V (by (with_reducible repeat (first | apply Kd.R_alloc | apply Kd.R_drewN | apply Kd.R_drew)); exact Kd.R_mono (Kd.R_types (Kd.R_types (Kd.R_types (Kd.R_apart' HO176.out (Kd.R_typed HO172.out) (by decide)) BK165.out (by decide)) BK166.out (by decide)) BK173.out (by decide)) (fun _ hk => ⟨hk.1.1.1.1.2, ⟨hk.1.1.1.2, ⟨hk.1.1.2, ⟨hk.1.2, hk.2⟩⟩⟩⟩))⟩, ⟨by (with_reducible repeat (first | apply Kd.R_alloc | apply Kd.R_drewN | apply Kd.R_drew)); exact Kd.R_mono HO169.out (fun _ hk => trivial)⟩, ⟨by (with_reducible repeat (first | apply Kd.R_alloc | apply Kd.R_drewN | apply Kd.R_drew)); exact HO172.out⟩, ⟨by (with_reducible repeat (first | refine blk_drewN ?_ _ | refine blk_drew ?_ | refine blk_alloc ?_ _)); exact BK165.out⟩, ⟨by (with_reducible repeat (first | refine blk_drewN ?_ _ | refine blk_drew ?_ | refine blk_alloc ?_ _)); exact BK166.out⟩, ⟨by (with_reducible repeat (first | refine blk_drewN ?_ _ | refine blk_drew ?_ | refine blk_alloc ?_ _)); exact BK173.out⟩, ⟨by repeat (first | (with_reducible first | exact HB.out | apply below_alloc | apply pw_below_drewN | apply below_drew1 | refine below_set ?_ GE165.out | refine below_set ?_ GE166.out | refine below_set ?_ GE173.out) | exact HB.out)⟩⟩
  case round =>
    clear H'
    try clear c1
    try clear p2
    try clear c6
    try clear c12
    try clear c13
    try clear hcz14_0
    try clear hcz14_1
    try clear hfz14_0
    try clear hfz14_1
    obtain ⟨x6_1, x7_1, x174000_1, x174001_1, u174000, u174001, rfl, HA, HK1, HO_6, HO_174000, HO_174001, BK165, BK166, BK173, HB⟩ := hrel
    cases gk with
    | zero => exact absurd HA.out (by simp [spec_ruBack.l0])
    | succ k1 =>
      have H := HA.out
      clear HA
      simp only [spec_ruBack.l0] at H
      by_cases c17 : x7_1 < (x174000_1.length : Int)
      · rw [if_pos c17] at H
        have c17b0 : decide (x7_1 < (x174000_1.length : Int)) = true := decide_eq_true c17
        clear c17
        by_cases c18 : 0 ≤ x7_1
        · rw [if_pos c18] at H
          have c18b0 : decide (0 ≤ x7_1) = true := decide_eq_true c18
          clear c18
          have H' := Aside0.mk H
          clear H
          have hnb19 := NB173_165.out
          have hnc19 := NB165_173.out
          have hnb20 := NB173_166.out
          have hnc20 := NB166_173.out
          have hcz21_0 : wr.cell? ⟨gb173, 0, none⟩ = some (u174000) := (blk_cell BK173.out 0).trans rfl
          have hcz21_1 : wr.cell? ⟨gb173, 1, none⟩ = some (u174001) := (blk_cell BK173.out 1).trans rfl
          have hfz21_0 := blk_frozen BK173.out 0
          have hfz21_1 := blk_frozen BK173.out 1
          obtain ⟨Ao22, co22, eo22⟩ := Kd.R_slice HO_174000.out
          subst eo22
          have p177 : 0 ≤ (x7_1 : Int) := of_decide_eq_true (by first | (with_reducible assumption) | assumption)
          have q177 : x7_1 < (x174000_1.length : Int) := of_decide_eq_true (by first | (with_reducible assumption) | assumption)
          obtain ⟨ad177, e177, hx177_0⟩ := Kd.at_string (Kd.R_reads' HO_174000.out).2.2 x7_1 p177 q177
          cases e177
          replace p177 := eq_true p177
          replace q177 := eq_true q177
          go_wp2_with (first | ((with_reducible refine gate_dst (N := 32) rfl ?_); refine Go.Proofs.YtjgijaocinpkhaaDoorXW.iter_event ?hg (N := 32) ?hd (s := (rdOf ByteArray.empty x174000_1 x7_1)) ?hr ?_; (case hd => rfl); (case hg => rfl); (case hr => first | (go_simp; done) | (go_simp; rfl)); intro gb100032 hg w23 hbox hb; have n0_ := Aside0.mk (Kd.V_below (Kd.V_elderB (by (with_reducible repeat (first | apply Kd.V_alloc | apply Kd.V_drewN | apply Kd.V_drew)); exact HO_6.out) gb100032 (Nat.le_of_eq hg.symm)) hb); have n1_ := Aside0.mk (Kd.R_below (by (with_reducible repeat (first | apply Kd.R_alloc | apply Kd.R_drewN | apply Kd.R_drew)); exact HO_174000.out) hb); have n2_ := Aside0.mk (Kd.R_below (by (with_reducible repeat (first | apply Kd.R_alloc | apply Kd.R_drewN | apply Kd.R_drew)); exact HO_174001.out) hb); have n3_ := Aside0.mk (blk_below (g := gb165) (o := .cells #[.bool a1_0, .bool a1_1, .bool a1_2] 32 (0, 0)) (by (with_reducible repeat (first | refine blk_drewN ?_ _ | refine blk_drew ?_ | refine blk_alloc ?_ _)); exact BK165.out) hb); have n4_ := Aside0.mk (blk_below (g := gb166) (o := .cells #[.slice none 0 0, .slice none 0 0] 72 (0, 0)) (by (with_reducible repeat (first | refine blk_drewN ?_ _ | refine blk_drew ?_ | refine blk_alloc ?_ _)); exact BK166.out) hb); have n5_ := Aside0.mk (blk_below (g := gb173) (o := .cells #[.slice (some ad177) x174000_1.length co22, u174001] 72 (0, 0)) (by (with_reducible repeat (first | refine blk_drewN ?_ _ | refine blk_drew ?_ | refine blk_alloc ?_ _)); exact BK173.out) hb); have n6_ := Aside0.mk (below_step (by repeat (first | (with_reducible first | exact HB.out | apply below_alloc | apply pw_below_drewN | apply below_drew1 | refine below_set ?_ GE165.out | refine below_set ?_ GE166.out | refine below_set ?_ GE173.out) | exact HB.out)) hb); have n7_ := Aside0.mk (hbox); have n8_ := Aside0.mk ((by rw [hg]; exact (below_size (by repeat (first | (with_reducible first | exact HB.out | apply below_alloc | apply pw_below_drewN | apply below_drew1 | refine below_set ?_ GE165.out | refine below_set ?_ GE166.out | refine below_set ?_ GE173.out) | exact HB.out))) : w.heap.size ≤ gb100032)); have n9_ := Aside0.mk ((by rw [hg]; exact (below_size (by repeat (first | (with_reducible first | exact HB.out | apply below_alloc | apply pw_below_drewN | apply below_drew1 | refine below_set ?_ GE165.out | refine below_set ?_ GE166.out | refine below_set ?_ GE173.out) | exact HB.out))) : w.heap.size ≤ gb100032)); have n10_ := Aside0.mk ((by rw [hg]; exact Nat.ne_of_lt (blk_lt (g := gb165) (o := .cells #[.bool a1_0, .bool a1_1, .bool a1_2] 32 (0, 0)) (by (with_reducible repeat (first | refine blk_drewN ?_ _ | refine blk_drew ?_ | refine blk_alloc ?_ _)); exact BK165.out)) : gb165 ≠ gb100032)); have n11_ := Aside0.mk ((by rw [hg]; exact Nat.ne_of_gt (blk_lt (g := gb165) (o := .cells #[.bool a1_0, .bool a1_1, .bool a1_2] 32 (0, 0)) (by (with_reducible repeat (first | refine blk_drewN ?_ _ | refine blk_drew ?_ | refine blk_alloc ?_ _)); exact BK165.out)) : gb100032 ≠ gb165)); have n12_ := Aside0.mk ((by rw [hg]; exact Nat.ne_of_lt (blk_lt (g := gb166) (o := .cells #[.slice none 0 0, .slice none 0 0] 72 (0, 0)) (by (with_reducible repeat (first | refine blk_drewN ?_ _ | refine blk_drew ?_ | refine blk_alloc ?_ _)); exact BK166.out)) : gb166 ≠ gb100032)); have n13_ := Aside0.mk ((by rw [hg]; exact Nat.ne_of_gt (blk_lt (g := gb166) (o := .cells #[.slice none 0 0, .slice none 0 0] 72 (0, 0)) (by (with_reducible repeat (first | refine blk_drewN ?_ _ | refine blk_drew ?_ | refine blk_alloc ?_ _)); exact BK166.out)) : gb100032 ≠ gb166)); have n14_ := Aside0.mk ((by rw [hg]; exact Nat.ne_of_lt (blk_lt (g := gb173) (o := .cells #[.slice (some ad177) x174000_1.length co22, u174001] 72 (0, 0)) (by (with_reducible repeat (first | refine blk_drewN ?_ _ | refine blk_drew ?_ | refine blk_alloc ?_ _)); exact BK173.out)) : gb173 ≠ gb100032)); have n15_ := Aside0.mk ((by rw [hg]; exact Nat.ne_of_gt (blk_lt (g := gb173) (o := .cells #[.slice (some ad177) x174000_1.length co22, u174001] 72 (0, 0)) (by (with_reducible repeat (first | refine blk_drewN ?_ _ | refine blk_drew ?_ | refine blk_alloc ?_ _)); exact BK173.out)) : gb100032 ≠ gb173)); clear HO_6; clear HO_174000; clear HO_174001; clear BK165; clear BK166; clear BK173; clear HB; have HO_6 := n0_; have HO_174000 := n1_; have HO_174001 := n2_; have BK165 := n3_; have BK166 := n4_; have BK173 := n5_; have HB := n6_; have BI100032 := n7_; have GW100032 := n8_; have GE100032 := n9_; have NB165_100032 := n10_; have NB100032_165 := n11_; have NB166_100032 := n12_; have NB100032_166 := n13_; have NB173_100032 := n14_; have NB100032_173 := n15_; clear n0_ n1_ n2_ n3_ n4_ n5_ n6_ n7_ n8_ n9_ n10_ n11_ n12_ n13_ n14_ n15_; clear hb hbox hg))
          (try simp only [Act.put, List.setIfInBounds_toArray, List.set_cons_zero, List.set_cons_succ])
          go_loopg [6] k1 (fun kq v6 w' => ∃ (x6_2 : List ByteArray) (x174000_2 : List ByteArray) (x174001_2 : List Int) (x100033000_2 : Int) (u174000 : Value) (u174001 : Value), Aside0 (spec_ruBack.l1 kq x6_2 x7_1 (rdOf ByteArray.empty x174000_1 x7_1) a1_0 a1_1 a1_2 x174000_2 x174001_2 x100033000_2 (rdOf ByteArray.empty x174000_1 x7_1) = some (r1, r2)) ∧ Aside0 (kq ≤ k1) ∧ Aside0 (Kd.V Kd.string 9 w' w.heap.size (fun k_ => some k_ ≠ (u174000 : Value).ownBlock ∧ some k_ ≠ (u174001 : Value).ownBlock ∧ k_ ≠ gb165 ∧ k_ ≠ gb166 ∧ k_ ≠ gb173 ∧ k_ ≠ gb100032) v6 x6_2) ∧ Aside0 (Kd.R Kd.string 9 w' w.heap.size (fun _ => True) u174000 x174000_2) ∧ Aside0 (Kd.R (Kd.int .i64) 3 w' w.heap.size (fun _ => True) u174001 x174001_2) ∧ Aside0 (w'.heap[gb165]? = some (.cells #[.bool a1_0, .bool a1_1, .bool a1_2] 32 (0, 0))) ∧ Aside0 (w'.heap[gb166]? = some (.cells #[(.slice none 0 0), (.slice none 0 0)] 72 (0, 0))) ∧ Aside0 (w'.heap[gb173]? = some (.cells #[u174000, u174001] 72 (0, 0))) ∧ Aside0 (w'.heap[gb100032]? = some (.stringIter (rdOf ByteArray.empty x174000_1 x7_1) (x100033000_2 : Int).toNat)) ∧ Aside0 (Below w.heap.size w w'))
          case atStart => exact ⟨(x6_1), (x174000_1), (x174001_1), (0), (.slice (some ad177) x174000_1.length co22), (u174001), H', ⟨Nat.le_refl _⟩, ⟨by (with_reducible repeat (first | apply Kd.V_alloc | apply Kd.V_drewN | apply Kd.V_drew)); exact Kd.V_mono HO_6.out (fun _ hk => ⟨hk.1.1, ⟨hk.1.2.1, ⟨hk.1.2.2.1, ⟨hk.1.2.2.2.1, ⟨hk.1.2.2.2.2, hk.2⟩⟩⟩⟩⟩)⟩, ⟨by (with_reducible repeat (first | apply Kd.R_alloc | apply Kd.R_drewN | apply Kd.R_drew)); exact HO_174000.out⟩, ⟨by (with_reducible repeat (first | apply Kd.R_alloc | apply Kd.R_drewN | apply Kd.R_drew)); exact HO_174001.out⟩, ⟨by (with_reducible repeat (first | refine blk_drewN ?_ _ | refine blk_drew ?_ | refine blk_alloc ?_ _)); exact BK165.out⟩, ⟨by (with_reducible repeat (first | refine blk_drewN ?_ _ | refine blk_drew ?_ | refine blk_alloc ?_ _)); exact BK166.out⟩, ⟨by (with_reducible repeat (first | refine blk_drewN ?_ _ | refine blk_drew ?_ | refine blk_alloc ?_ _)); exact BK173.out⟩, ⟨by (with_reducible repeat (first | refine blk_drewN ?_ _ | refine blk_drew ?_ | refine blk_alloc ?_ _)); exact BI100032.out⟩, ⟨by repeat (first | (with_reducible first | exact HB.out | apply below_alloc | apply pw_below_drewN | apply below_drew1 | refine below_set ?_ GE165.out | refine below_set ?_ GE166.out | refine below_set ?_ GE173.out | refine below_set ?_ GE100032.out) | exact HB.out)⟩⟩
          case round =>
            clear H'
            try clear c1
            try clear p1
            try clear q1
            try clear hx1
            try clear c2
            try clear p2
            try clear c6
            try clear c12
            try clear c13
            try clear c17
            try clear c17b0
            try clear p17
            try clear q17
            try clear hx17
            try clear c18
            try clear c18b0
            try clear c19
            try clear c20
            try clear hcz14_0
            try clear hcz14_1
            try clear hcz21_0
            try clear hcz21_1
            try clear hfz14_0
            try clear hfz14_1
            try clear hfz21_0
            try clear hfz21_1
            try clear hx177_0
            try clear p177
            try clear p2
            try clear q177
            obtain ⟨x6_2, x174000_2, x174001_2, x100033000_2, u174000, u174001, HA, HK2, HO_6, HO_174000, HO_174001, BK165, BK166, BK173, BI100032, HB⟩ := hrel
            cases gk with
            | zero => exact absurd HA.out (by simp [spec_ruBack.l1])
            | succ k2 =>
              have H := HA.out
              clear HA
              simp only [spec_ruBack.l1] at H
              by_cases c24 : 0 ≤ x100033000_2
              · rw [if_pos c24] at H
                have c24b0 : decide (0 ≤ x100033000_2) = true := decide_eq_true c24
                clear c24
                by_cases c25 : x100033000_2 < ((rdOf ByteArray.empty x174000_1 x7_1).size : Int)
                · rw [if_pos c25] at H
                  have c25b0 : decide (x100033000_2 < ((rdOf ByteArray.empty x174000_1 x7_1).size : Int)) = true := decide_eq_true c25
                  clear c25
                  by_cases c26 : bt (rdOf ByteArray.empty x174000_1 x7_1) x100033000_2 < 128
                  · rw [if_pos c26] at H
                    have c26b0 : decide (bt (rdOf ByteArray.empty x174000_1 x7_1) x100033000_2 < 128) = true := decide_eq_true c26
                    clear c26
                    have H' := Aside0.mk H
                    clear H
                    go_wp2_with (first | ((with_reducible refine gate_dst (N := 33) rfl ?_); refine Go.Proofs.YtjgijaocinpkhaaDoorXW.next_step ?hg (N := 33) ?hd (g := gb100032) (s := (rdOf ByteArray.empty x174000_1 x7_1)) (p := x100033000_2) (by (with_reducible repeat (first | refine blk_drewN ?_ _ | refine blk_drew ?_ | refine blk_alloc ?_ _)); exact BI100032.out) (of_decide_eq_true (by first | (with_reducible assumption) | assumption)) (of_decide_eq_true (by first | (with_reducible assumption) | assumption)) (of_decide_eq_true (by first | (with_reducible assumption) | assumption)) ?hr ?_; (case hd => rfl); (case hg => rfl); (case hr => intro bq hnx; first | (go_simp; done) | (go_simp; rfl)); intro w27 hit hkp hbl; have n0_ := Aside0.mk (Go.Proofs.YtjgijaocinpkhaaDoorXW.V_iter (by (with_reducible repeat (first | apply Kd.V_alloc | apply Kd.V_drewN | apply Kd.V_drew)); exact HO_6.out) (by (with_reducible repeat (first | refine blk_drewN ?_ _ | refine blk_drew ?_ | refine blk_alloc ?_ _)); exact BI100032.out) hkp); have n1_ := Aside0.mk (Go.Proofs.YtjgijaocinpkhaaDoorXW.R_iter (by (with_reducible repeat (first | apply Kd.R_alloc | apply Kd.R_drewN | apply Kd.R_drew)); exact HO_174000.out) (by (with_reducible repeat (first | refine blk_drewN ?_ _ | refine blk_drew ?_ | refine blk_alloc ?_ _)); exact BI100032.out) hkp); have n2_ := Aside0.mk (Go.Proofs.YtjgijaocinpkhaaDoorXW.R_iter (by (with_reducible repeat (first | apply Kd.R_alloc | apply Kd.R_drewN | apply Kd.R_drew)); exact HO_174001.out) (by (with_reducible repeat (first | refine blk_drewN ?_ _ | refine blk_drew ?_ | refine blk_alloc ?_ _)); exact BI100032.out) hkp); have n3_ := Aside0.mk (blk_kept (by (with_reducible repeat (first | refine blk_drewN ?_ _ | refine blk_drew ?_ | refine blk_alloc ?_ _)); exact BK165.out) hkp NB165_100032.out); have n4_ := Aside0.mk (blk_kept (by (with_reducible repeat (first | refine blk_drewN ?_ _ | refine blk_drew ?_ | refine blk_alloc ?_ _)); exact BK166.out) hkp NB166_100032.out); have n5_ := Aside0.mk (blk_kept (by (with_reducible repeat (first | refine blk_drewN ?_ _ | refine blk_drew ?_ | refine blk_alloc ?_ _)); exact BK173.out) hkp NB173_100032.out); have n6_ := Aside0.mk (hit); have n7_ := Aside0.mk (hbl _ _ (by repeat (first | (with_reducible first | exact HB.out | apply below_alloc | apply pw_below_drewN | apply below_drew1 | refine below_set ?_ GE165.out | refine below_set ?_ GE166.out | refine below_set ?_ GE173.out | refine below_set ?_ GE100032.out) | exact HB.out)) GE100032.out); clear HO_6; clear HO_174000; clear HO_174001; clear BK165; clear BK166; clear BK173; clear BI100032; clear HB; have HO_6 := n0_; have HO_174000 := n1_; have HO_174001 := n2_; have BK165 := n3_; have BK166 := n4_; have BK173 := n5_; have BI100032 := n6_; have HB := n7_; clear n0_ n1_ n2_ n3_ n4_ n5_ n6_ n7_; clear hit hkp hbl) | ((with_reducible refine gate_dst (N := 37) rfl ?_); refine Go.Proofs.YtjgijaocinpkhaaDoorXW.iter_event ?hg (N := 37) ?hd (s := (rdOf ByteArray.empty x174000_1 x7_1)) ?hr ?_; (case hd => rfl); (case hg => rfl); (case hr => first | (go_simp; done) | (go_simp; rfl)); intro gb100037 hg w28 hbox hb; have n0_ := Aside0.mk (Kd.V_below (Kd.V_elderB (by (with_reducible repeat (first | apply Kd.V_alloc | apply Kd.V_drewN | apply Kd.V_drew)); exact HO_6.out) gb100037 (Nat.le_of_eq hg.symm)) hb); have n1_ := Aside0.mk (Kd.R_below (by (with_reducible repeat (first | apply Kd.R_alloc | apply Kd.R_drewN | apply Kd.R_drew)); exact HO_174000.out) hb); have n2_ := Aside0.mk (Kd.R_below (by (with_reducible repeat (first | apply Kd.R_alloc | apply Kd.R_drewN | apply Kd.R_drew)); exact HO_174001.out) hb); have n3_ := Aside0.mk (blk_below (g := gb165) (o := .cells #[.bool a1_0, .bool a1_1, .bool a1_2] 32 (0, 0)) (by (with_reducible repeat (first | refine blk_drewN ?_ _ | refine blk_drew ?_ | refine blk_alloc ?_ _)); exact BK165.out) hb); have n4_ := Aside0.mk (blk_below (g := gb166) (o := .cells #[.slice none 0 0, .slice none 0 0] 72 (0, 0)) (by (with_reducible repeat (first | refine blk_drewN ?_ _ | refine blk_drew ?_ | refine blk_alloc ?_ _)); exact BK166.out) hb); have n5_ := Aside0.mk (blk_below (g := gb173) (o := .cells #[u174000, u174001] 72 (0, 0)) (by (with_reducible repeat (first | refine blk_drewN ?_ _ | refine blk_drew ?_ | refine blk_alloc ?_ _)); exact BK173.out) hb); have n6_ := Aside0.mk (blk_below (g := gb100032) (o := .stringIter (rdOf ByteArray.empty x174000_1 x7_1) (x100033000_2 + 1 : Int).toNat) (by (with_reducible repeat (first | refine blk_drewN ?_ _ | refine blk_drew ?_ | refine blk_alloc ?_ _)); exact BI100032.out) hb); have n7_ := Aside0.mk (below_step (by repeat (first | (with_reducible first | exact HB.out | apply below_alloc | apply pw_below_drewN | apply below_drew1 | refine below_set ?_ GE165.out | refine below_set ?_ GE166.out | refine below_set ?_ GE173.out | refine below_set ?_ GE100032.out) | exact HB.out)) hb); have n8_ := Aside0.mk (hbox); have n9_ := Aside0.mk ((by rw [hg]; exact (below_size (by repeat (first | (with_reducible first | exact HB.out | apply below_alloc | apply pw_below_drewN | apply below_drew1 | refine below_set ?_ GE165.out | refine below_set ?_ GE166.out | refine below_set ?_ GE173.out | refine below_set ?_ GE100032.out) | exact HB.out))) : w.heap.size ≤ gb100037)); have n10_ := Aside0.mk ((by rw [hg]; exact (below_size (by repeat (first | (with_reducible first | exact HB.out | apply below_alloc | apply pw_below_drewN | apply below_drew1 | refine below_set ?_ GE165.out | refine below_set ?_ GE166.out | refine below_set ?_ GE173.out | refine below_set ?_ GE100032.out) | exact HB.out))) : w.heap.size ≤ gb100037)); have n11_ := Aside0.mk ((by rw [hg]; exact Nat.ne_of_lt (blk_lt (g := gb165) (o := .cells #[.bool a1_0, .bool a1_1, .bool a1_2] 32 (0, 0)) (by (with_reducible repeat (first | refine blk_drewN ?_ _ | refine blk_drew ?_ | refine blk_alloc ?_ _)); exact BK165.out)) : gb165 ≠ gb100037)); have n12_ := Aside0.mk ((by rw [hg]; exact Nat.ne_of_gt (blk_lt (g := gb165) (o := .cells #[.bool a1_0, .bool a1_1, .bool a1_2] 32 (0, 0)) (by (with_reducible repeat (first | refine blk_drewN ?_ _ | refine blk_drew ?_ | refine blk_alloc ?_ _)); exact BK165.out)) : gb100037 ≠ gb165)); have n13_ := Aside0.mk ((by rw [hg]; exact Nat.ne_of_lt (blk_lt (g := gb166) (o := .cells #[.slice none 0 0, .slice none 0 0] 72 (0, 0)) (by (with_reducible repeat (first | refine blk_drewN ?_ _ | refine blk_drew ?_ | refine blk_alloc ?_ _)); exact BK166.out)) : gb166 ≠ gb100037)); have n14_ := Aside0.mk ((by rw [hg]; exact Nat.ne_of_gt (blk_lt (g := gb166) (o := .cells #[.slice none 0 0, .slice none 0 0] 72 (0, 0)) (by (with_reducible repeat (first | refine blk_drewN ?_ _ | refine blk_drew ?_ | refine blk_alloc ?_ _)); exact BK166.out)) : gb100037 ≠ gb166)); have n15_ := Aside0.mk ((by rw [hg]; exact Nat.ne_of_lt (blk_lt (g := gb173) (o := .cells #[u174000, u174001] 72 (0, 0)) (by (with_reducible repeat (first | refine blk_drewN ?_ _ | refine blk_drew ?_ | refine blk_alloc ?_ _)); exact BK173.out)) : gb173 ≠ gb100037)); have n16_ := Aside0.mk ((by rw [hg]; exact Nat.ne_of_gt (blk_lt (g := gb173) (o := .cells #[u174000, u174001] 72 (0, 0)) (by (with_reducible repeat (first | refine blk_drewN ?_ _ | refine blk_drew ?_ | refine blk_alloc ?_ _)); exact BK173.out)) : gb100037 ≠ gb173)); have n17_ := Aside0.mk ((by rw [hg]; exact Nat.ne_of_lt (blk_lt (g := gb100032) (o := .stringIter (rdOf ByteArray.empty x174000_1 x7_1) (x100033000_2 + 1 : Int).toNat) (by (with_reducible repeat (first | refine blk_drewN ?_ _ | refine blk_drew ?_ | refine blk_alloc ?_ _)); exact BI100032.out)) : gb100032 ≠ gb100037)); have n18_ := Aside0.mk ((by rw [hg]; exact Nat.ne_of_gt (blk_lt (g := gb100032) (o := .stringIter (rdOf ByteArray.empty x174000_1 x7_1) (x100033000_2 + 1 : Int).toNat) (by (with_reducible repeat (first | refine blk_drewN ?_ _ | refine blk_drew ?_ | refine blk_alloc ?_ _)); exact BI100032.out)) : gb100037 ≠ gb100032)); clear HO_6; clear HO_174000; clear HO_174001; clear BK165; clear BK166; clear BK173; clear BI100032; clear HB; have HO_6 := n0_; have HO_174000 := n1_; have HO_174001 := n2_; have BK165 := n3_; have BK166 := n4_; have BK173 := n5_; have BI100032 := n6_; have HB := n7_; have BI100037 := n8_; have GW100037 := n9_; have GE100037 := n10_; have NB165_100037 := n11_; have NB100037_165 := n12_; have NB166_100037 := n13_; have NB100037_166 := n14_; have NB173_100037 := n15_; have NB100037_173 := n16_; have NB100032_100037 := n17_; have NB100037_100032 := n18_; clear n0_ n1_ n2_ n3_ n4_ n5_ n6_ n7_ n8_ n9_ n10_ n11_ n12_ n13_ n14_ n15_ n16_ n17_ n18_; clear hb hbox hg))
                    (try simp only [Act.put, List.setIfInBounds_toArray, List.set_cons_zero, List.set_cons_succ])
                    go_loopg [6] k2 (fun kq v6 w' => ∃ (x6_3 : List ByteArray) (x174000_3 : List ByteArray) (x174001_3 : List Int) (x100038000_3 : Int) (u174000 : Value) (u174001 : Value), Aside0 (spec_ruBack.l2 kq x6_3 x7_1 (rdOf ByteArray.empty x174000_1 x7_1) x100033000_2 a1_0 a1_1 a1_2 x174000_3 x174001_3 (x100033000_2 + 1) (rdOf ByteArray.empty x174000_1 x7_1) x100038000_3 (rdOf ByteArray.empty x174000_1 x7_1) = some (r1, r2)) ∧ Aside0 (kq ≤ k2) ∧ Aside0 (Kd.V Kd.string 9 w' w.heap.size (fun k_ => some k_ ≠ (u174000 : Value).ownBlock ∧ some k_ ≠ (u174001 : Value).ownBlock ∧ k_ ≠ gb165 ∧ k_ ≠ gb166 ∧ k_ ≠ gb173 ∧ k_ ≠ gb100032 ∧ k_ ≠ gb100037) v6 x6_3) ∧ Aside0 (Kd.R Kd.string 9 w' w.heap.size (fun _ => True) u174000 x174000_3) ∧ Aside0 (Kd.R (Kd.int .i64) 3 w' w.heap.size (fun _ => True) u174001 x174001_3) ∧ Aside0 (w'.heap[gb165]? = some (.cells #[.bool a1_0, .bool a1_1, .bool a1_2] 32 (0, 0))) ∧ Aside0 (w'.heap[gb166]? = some (.cells #[(.slice none 0 0), (.slice none 0 0)] 72 (0, 0))) ∧ Aside0 (w'.heap[gb173]? = some (.cells #[u174000, u174001] 72 (0, 0))) ∧ Aside0 (w'.heap[gb100032]? = some (.stringIter (rdOf ByteArray.empty x174000_1 x7_1) ((x100033000_2 + 1) : Int).toNat)) ∧ Aside0 (w'.heap[gb100037]? = some (.stringIter (rdOf ByteArray.empty x174000_1 x7_1) (x100038000_3 : Int).toNat)) ∧ Aside0 (Below w.heap.size w w'))
                    case atStart => exact ⟨(x6_2), (x174000_2), (x174001_2), (0), (u174000), (u174001), H', ⟨Nat.le_refl _⟩, ⟨by (with_reducible repeat (first | apply Kd.V_alloc | apply Kd.V_drewN | apply Kd.V_drew)); exact Kd.V_mono HO_6.out (fun _ hk => ⟨hk.1.1, ⟨hk.1.2.1, ⟨hk.1.2.2.1, ⟨hk.1.2.2.2.1, ⟨hk.1.2.2.2.2.1, ⟨hk.1.2.2.2.2.2, hk.2⟩⟩⟩⟩⟩⟩)⟩, ⟨by (with_reducible repeat (first | apply Kd.R_alloc | apply Kd.R_drewN | apply Kd.R_drew)); exact HO_174000.out⟩, ⟨by (with_reducible repeat (first | apply Kd.R_alloc | apply Kd.R_drewN | apply Kd.R_drew)); exact HO_174001.out⟩, ⟨by (with_reducible repeat (first | refine blk_drewN ?_ _ | refine blk_drew ?_ | refine blk_alloc ?_ _)); exact BK165.out⟩, ⟨by (with_reducible repeat (first | refine blk_drewN ?_ _ | refine blk_drew ?_ | refine blk_alloc ?_ _)); exact BK166.out⟩, ⟨by (with_reducible repeat (first | refine blk_drewN ?_ _ | refine blk_drew ?_ | refine blk_alloc ?_ _)); exact BK173.out⟩, ⟨by (with_reducible repeat (first | refine blk_drewN ?_ _ | refine blk_drew ?_ | refine blk_alloc ?_ _)); exact BI100032.out⟩, ⟨by (with_reducible repeat (first | refine blk_drewN ?_ _ | refine blk_drew ?_ | refine blk_alloc ?_ _)); exact BI100037.out⟩, ⟨by repeat (first | (with_reducible first | exact HB.out | apply below_alloc | apply pw_below_drewN | apply below_drew1 | refine below_set ?_ GE165.out | refine below_set ?_ GE166.out | refine below_set ?_ GE173.out | refine below_set ?_ GE100032.out | refine below_set ?_ GE100037.out) | exact HB.out)⟩⟩
                    case round =>
                      clear H'
                      try clear c1
                      try clear p1
                      try clear q1
                      try clear hx1
                      try clear c2
                      try clear p2
                      try clear c6
                      try clear c12
                      try clear c13
                      try clear c17
                      try clear c17b0
                      try clear p17
                      try clear q17
                      try clear hx17
                      try clear c18
                      try clear c18b0
                      try clear c19
                      try clear c20
                      try clear c24
                      try clear c24b0
                      try clear c25
                      try clear c25b0
                      try clear c26
                      try clear c26b0
                      try clear hcz14_0
                      try clear hcz14_1
                      try clear hcz21_0
                      try clear hcz21_1
                      try clear hfz14_0
                      try clear hfz14_1
                      try clear hfz21_0
                      try clear hfz21_1
                      try clear hx177_0
                      try clear p1
                      try clear p17
                      try clear p177
                      try clear p2
                      try clear q1
                      try clear q17
                      try clear q177
                      obtain ⟨x6_3, x174000_3, x174001_3, x100038000_3, u174000, u174001, HA, HK3, HO_6, HO_174000, HO_174001, BK165, BK166, BK173, BI100032, BI100037, HB⟩ := hrel
                      cases gk with
                      | zero => exact absurd HA.out (by simp [spec_ruBack.l2])
                      | succ k3 =>
                        have H := HA.out
                        clear HA
                        simp only [spec_ruBack.l2] at H
                        by_cases c29 : 0 ≤ x100038000_3
                        · rw [if_pos c29] at H
                          have c29b0 : decide (0 ≤ x100038000_3) = true := decide_eq_true c29
                          clear c29
                          by_cases c30 : x100038000_3 < ((rdOf ByteArray.empty x174000_1 x7_1).size : Int)
                          · rw [if_pos c30] at H
                            have c30b0 : decide (x100038000_3 < ((rdOf ByteArray.empty x174000_1 x7_1).size : Int)) = true := decide_eq_true c30
                            clear c30
                            by_cases c31 : bt (rdOf ByteArray.empty x174000_1 x7_1) x100038000_3 < 128
                            · rw [if_pos c31] at H
                              have c31b0 : decide (bt (rdOf ByteArray.empty x174000_1 x7_1) x100038000_3 < 128) = true := decide_eq_true c31
                              clear c31
                              have HC32 := Aside0.mk H
                              clear H
                              go_upto_region 13 with (first | ((with_reducible refine gate_dst (N := 38) rfl ?_); refine Go.Proofs.YtjgijaocinpkhaaDoorXW.next_step ?hg (N := 38) ?hd (g := gb100037) (s := (rdOf ByteArray.empty x174000_1 x7_1)) (p := x100038000_3) (by (with_reducible repeat (first | refine blk_drewN ?_ _ | refine blk_drew ?_ | refine blk_alloc ?_ _)); exact BI100037.out) (of_decide_eq_true (by first | (with_reducible assumption) | assumption)) (of_decide_eq_true (by first | (with_reducible assumption) | assumption)) (of_decide_eq_true (by first | (with_reducible assumption) | assumption)) ?hr ?_; (case hd => rfl); (case hg => rfl); (case hr => intro bq hnx; first | (go_simp; done) | (go_simp; rfl)); intro w33 hit hkp hbl; have n0_ := Aside0.mk (Go.Proofs.YtjgijaocinpkhaaDoorXW.V_iter (by (with_reducible repeat (first | apply Kd.V_alloc | apply Kd.V_drewN | apply Kd.V_drew)); exact HO_6.out) (by (with_reducible repeat (first | refine blk_drewN ?_ _ | refine blk_drew ?_ | refine blk_alloc ?_ _)); exact BI100037.out) hkp); have n1_ := Aside0.mk (Go.Proofs.YtjgijaocinpkhaaDoorXW.R_iter (by (with_reducible repeat (first | apply Kd.R_alloc | apply Kd.R_drewN | apply Kd.R_drew)); exact HO_174000.out) (by (with_reducible repeat (first | refine blk_drewN ?_ _ | refine blk_drew ?_ | refine blk_alloc ?_ _)); exact BI100037.out) hkp); have n2_ := Aside0.mk (Go.Proofs.YtjgijaocinpkhaaDoorXW.R_iter (by (with_reducible repeat (first | apply Kd.R_alloc | apply Kd.R_drewN | apply Kd.R_drew)); exact HO_174001.out) (by (with_reducible repeat (first | refine blk_drewN ?_ _ | refine blk_drew ?_ | refine blk_alloc ?_ _)); exact BI100037.out) hkp); have n3_ := Aside0.mk (blk_kept (by (with_reducible repeat (first | refine blk_drewN ?_ _ | refine blk_drew ?_ | refine blk_alloc ?_ _)); exact BK165.out) hkp NB165_100037.out); have n4_ := Aside0.mk (blk_kept (by (with_reducible repeat (first | refine blk_drewN ?_ _ | refine blk_drew ?_ | refine blk_alloc ?_ _)); exact BK166.out) hkp NB166_100037.out); have n5_ := Aside0.mk (blk_kept (by (with_reducible repeat (first | refine blk_drewN ?_ _ | refine blk_drew ?_ | refine blk_alloc ?_ _)); exact BK173.out) hkp NB173_100037.out); have n6_ := Aside0.mk (blk_kept (by (with_reducible repeat (first | refine blk_drewN ?_ _ | refine blk_drew ?_ | refine blk_alloc ?_ _)); exact BI100032.out) hkp NB100032_100037.out); have n7_ := Aside0.mk (hit); have n8_ := Aside0.mk (hbl _ _ (by repeat (first | (with_reducible first | exact HB.out | apply below_alloc | apply pw_below_drewN | apply below_drew1 | refine below_set ?_ GE165.out | refine below_set ?_ GE166.out | refine below_set ?_ GE173.out | refine below_set ?_ GE100032.out | refine below_set ?_ GE100037.out) | exact HB.out)) GE100037.out); clear HO_6; clear HO_174000; clear HO_174001; clear BK165; clear BK166; clear BK173; clear BI100032; clear BI100037; clear HB; have HO_6 := n0_; have HO_174000 := n1_; have HO_174001 := n2_; have BK165 := n3_; have BK166 := n4_; have BK173 := n5_; have BI100032 := n6_; have BI100037 := n7_; have HB := n8_; clear n0_ n1_ n2_ n3_ n4_ n5_ n6_ n7_ n8_; clear hit hkp hbl))
                              (try simp only [Act.put, List.setIfInBounds_toArray, List.set_cons_zero, List.set_cons_succ])
                              go_cut [50] (fun v50 wc => ∃ (kq : Nat) (x50_31 : Bool), v50 = .bool x50_31 ∧ Aside0 (spec_ruBack.j3 kq x6_3 x7_1 (rdOf ByteArray.empty x174000_1 x7_1) x100033000_2 x100038000_3 x50_31 a1_0 a1_1 a1_2 x174000_3 x174001_3 (x100033000_2 + 1) (rdOf ByteArray.empty x174000_1 x7_1) (x100038000_3 + 1) (rdOf ByteArray.empty x174000_1 x7_1) = some (r1, r2)) ∧ Aside0 (kq ≤ k3) ∧ Aside0 (Kd.V Kd.string 9 wc w.heap.size (fun k_ => some k_ ≠ (u174000 : Value).ownBlock ∧ some k_ ≠ (u174001 : Value).ownBlock ∧ k_ ≠ gb165 ∧ k_ ≠ gb166 ∧ k_ ≠ gb173 ∧ k_ ≠ gb100032 ∧ k_ ≠ gb100037) u6 x6_3) ∧ Aside0 (Kd.R Kd.string 9 wc w.heap.size (fun _ => True) u174000 x174000_3) ∧ Aside0 (Kd.R (Kd.int .i64) 3 wc w.heap.size (fun _ => True) u174001 x174001_3) ∧ Aside0 (wc.heap[gb165]? = some (.cells #[.bool a1_0, .bool a1_1, .bool a1_2] 32 (0, 0))) ∧ Aside0 (wc.heap[gb166]? = some (.cells #[(.slice none 0 0), (.slice none 0 0)] 72 (0, 0))) ∧ Aside0 (wc.heap[gb173]? = some (.cells #[u174000, u174001] 72 (0, 0))) ∧ Aside0 (wc.heap[gb100032]? = some (.stringIter (rdOf ByteArray.empty x174000_1 x7_1) ((x100033000_2 + 1) : Int).toNat)) ∧ Aside0 (wc.heap[gb100037]? = some (.stringIter (rdOf ByteArray.empty x174000_1 x7_1) ((x100038000_3 + 1) : Int).toNat)) ∧ Aside0 (Below w.heap.size w wc))
                              case first =>
                                have H := HC32.out
                                clear HC32
                                by_cases c34 : 0 ≤ x100033000_2
                                · rw [if_pos c34] at H
                                  have c34b0 : decide (0 ≤ x100033000_2) = true := decide_eq_true c34
                                  clear c34
                                  (first | rw [c34b0] | (simp only [i64_w, i32_w]; rw [c34b0]) | skip)
                                  by_cases c35 : x100033000_2 < ((rdOf ByteArray.empty x174000_1 x7_1).size : Int)
                                  · rw [if_pos c35] at H
                                    have c35b0 : decide (x100033000_2 < ((rdOf ByteArray.empty x174000_1 x7_1).size : Int)) = true := decide_eq_true c35
                                    clear c35
                                    by_cases c37 : (bt (rdOf ByteArray.empty x174000_1 x7_1) x100033000_2) = 46
                                    · rw [if_pos c37] at H
                                      have c37b0 : ((bt (rdOf ByteArray.empty x174000_1 x7_1) x100033000_2) == 46) = true := beq_iff_eq.mpr c37
                                      have c37b1 : ((bt (rdOf ByteArray.empty x174000_1 x7_1) x100033000_2) != 46) = false := bne_eq_false_iff_eq.mpr c37
                                      clear c37
                                      have H' := Aside0.mk H
                                      clear H
                                      have p36 : 0 ≤ (x100033000_2 : Int) := of_decide_eq_true (by first | (with_reducible assumption) | assumption)
                                      have q36 : x100033000_2 < ((rdOf ByteArray.empty x174000_1 x7_1).size : Int) := of_decide_eq_true (by first | (with_reducible assumption) | assumption)
                                      have hx36 := bt_at (rdOf ByteArray.empty x174000_1 x7_1) x100033000_2
                                      replace p36 := eq_true p36
                                      replace q36 := eq_true q36
                                      go_wp2
                                      go_meet
                                      case rel => exact ⟨_, (true), (by first | rfl | (simp; done) | (simp [*]; done)), H', ⟨by have := HK1.out; have := HK2.out; have := HK3.out; first | omega | exact Nat.le_refl _⟩, ⟨by (with_reducible repeat (first | apply Kd.V_alloc | apply Kd.V_drewN | apply Kd.V_drew)); exact HO_6.out⟩, ⟨by (with_reducible repeat (first | apply Kd.R_alloc | apply Kd.R_drewN | apply Kd.R_drew)); exact HO_174000.out⟩, ⟨by (with_reducible repeat (first | apply Kd.R_alloc | apply Kd.R_drewN | apply Kd.R_drew)); exact HO_174001.out⟩, ⟨by (with_reducible repeat (first | refine blk_drewN ?_ _ | refine blk_drew ?_ | refine blk_alloc ?_ _)); exact BK165.out⟩, ⟨by (with_reducible repeat (first | refine blk_drewN ?_ _ | refine blk_drew ?_ | refine blk_alloc ?_ _)); exact BK166.out⟩, ⟨by (with_reducible repeat (first | refine blk_drewN ?_ _ | refine blk_drew ?_ | refine blk_alloc ?_ _)); exact BK173.out⟩, ⟨by (with_reducible repeat (first | refine blk_drewN ?_ _ | refine blk_drew ?_ | refine blk_alloc ?_ _)); exact BI100032.out⟩, ⟨by (with_reducible repeat (first | refine blk_drewN ?_ _ | refine blk_drew ?_ | refine blk_alloc ?_ _)); exact BI100037.out⟩, ⟨by repeat (first | (with_reducible first | exact HB.out | apply below_alloc | apply pw_below_drewN | apply below_drew1 | refine below_set ?_ GE165.out | refine below_set ?_ GE166.out | refine below_set ?_ GE173.out | refine below_set ?_ GE100032.out | refine below_set ?_ GE100037.out) | exact HB.out)⟩⟩
                                    · rw [if_neg c37] at H
                                      have c37b0 : ((bt (rdOf ByteArray.empty x174000_1 x7_1) x100033000_2) == 46) = false := beq_eq_false_iff_ne.mpr c37
                                      have c37b1 : ((bt (rdOf ByteArray.empty x174000_1 x7_1) x100033000_2) != 46) = true := bne_iff_ne.mpr c37
                                      by_cases c38 : x100038000_3 < ((rdOf ByteArray.empty x174000_1 x7_1).size : Int)
                                      · rw [if_pos c38] at H
                                        have c38b0 : decide (x100038000_3 < ((rdOf ByteArray.empty x174000_1 x7_1).size : Int)) = true := decide_eq_true c38
                                        clear c38
                                        have H' := Aside0.mk H
                                        clear H
                                        have p36 : 0 ≤ (x100033000_2 : Int) := of_decide_eq_true (by first | (with_reducible assumption) | assumption)
                                        have q36 : x100033000_2 < ((rdOf ByteArray.empty x174000_1 x7_1).size : Int) := of_decide_eq_true (by first | (with_reducible assumption) | assumption)
                                        have hx36 := bt_at (rdOf ByteArray.empty x174000_1 x7_1) x100033000_2
                                        replace p36 := eq_true p36
                                        replace q36 := eq_true q36
                                        have p39 : 0 ≤ (x100038000_3 : Int) := of_decide_eq_true (by first | (with_reducible assumption) | assumption)
                                        have q39 : x100038000_3 < ((rdOf ByteArray.empty x174000_1 x7_1).size : Int) := of_decide_eq_true (by first | (with_reducible assumption) | assumption)
                                        have hx39 := bt_at (rdOf ByteArray.empty x174000_1 x7_1) x100038000_3
                                        replace p39 := eq_true p39
                                        replace q39 := eq_true q39
                                        go_wp2
                                        go_meet
                                        case rel => exact ⟨_, (((bt (rdOf ByteArray.empty x174000_1 x7_1) x100038000_3) != 46)), (by first | rfl | (simp; done) | (simp [*]; done)), H', ⟨by have := HK1.out; have := HK2.out; have := HK3.out; first | omega | exact Nat.le_refl _⟩, ⟨by (with_reducible repeat (first | apply Kd.V_alloc | apply Kd.V_drewN | apply Kd.V_drew)); exact HO_6.out⟩, ⟨by (with_reducible repeat (first | apply Kd.R_alloc | apply Kd.R_drewN | apply Kd.R_drew)); exact HO_174000.out⟩, ⟨by (with_reducible repeat (first | apply Kd.R_alloc | apply Kd.R_drewN | apply Kd.R_drew)); exact HO_174001.out⟩, ⟨by (with_reducible repeat (first | refine blk_drewN ?_ _ | refine blk_drew ?_ | refine blk_alloc ?_ _)); exact BK165.out⟩, ⟨by (with_reducible repeat (first | refine blk_drewN ?_ _ | refine blk_drew ?_ | refine blk_alloc ?_ _)); exact BK166.out⟩, ⟨by (with_reducible repeat (first | refine blk_drewN ?_ _ | refine blk_drew ?_ | refine blk_alloc ?_ _)); exact BK173.out⟩, ⟨by (with_reducible repeat (first | refine blk_drewN ?_ _ | refine blk_drew ?_ | refine blk_alloc ?_ _)); exact BI100032.out⟩, ⟨by (with_reducible repeat (first | refine blk_drewN ?_ _ | refine blk_drew ?_ | refine blk_alloc ?_ _)); exact BI100037.out⟩, ⟨by repeat (first | (with_reducible first | exact HB.out | apply below_alloc | apply pw_below_drewN | apply below_drew1 | refine below_set ?_ GE165.out | refine below_set ?_ GE166.out | refine below_set ?_ GE173.out | refine below_set ?_ GE100032.out | refine below_set ?_ GE100037.out) | exact HB.out)⟩⟩
                                      · rw [if_neg c38] at H
                                        exact absurd H (by simp)
                                  · rw [if_neg c35] at H
                                    exact absurd H (by simp)
                                · rw [if_neg c34] at H
                                  exact absurd H (by simp)
                              case rest =>
                                clear HC32
                                try clear c1
                                try clear p1
                                try clear q1
                                try clear hx1
                                try clear c2
                                try clear p2
                                try clear c3
                                try clear p3
                                try clear q3
                                try clear hx3
                                try clear c6
                                try clear c12
                                try clear c13
                                try clear c17
                                try clear c17b0
                                try clear p17
                                try clear q17
                                try clear hx17
                                try clear c18
                                try clear c18b0
                                try clear c19
                                try clear c20
                                try clear c24
                                try clear c24b0
                                try clear c25
                                try clear c25b0
                                try clear c26
                                try clear c26b0
                                try clear c29
                                try clear c29b0
                                try clear c30
                                try clear c30b0
                                try clear c31
                                try clear c31b0
                                try clear c34
                                try clear c34b0
                                try clear c35
                                try clear c35b0
                                try clear p36
                                try clear q36
                                try clear hx36
                                try clear c37
                                try clear c37b0
                                try clear c37b1
                                try clear c38
                                try clear c38b0
                                try clear p39
                                try clear q39
                                try clear hx39
                                try clear hcz14_0
                                try clear hcz14_1
                                try clear hcz21_0
                                try clear hcz21_1
                                try clear hfz14_0
                                try clear hfz14_1
                                try clear hfz21_0
                                try clear hfz21_1
                                try clear hx177_0
                                try clear p1
                                try clear p17
                                try clear p177
                                try clear p2
                                try clear p36
                                try clear p39
                                try clear q1
                                try clear q17
                                try clear q177
                                try clear q36
                                try clear q39
                                obtain ⟨kq, x50_31, rfl, HA, HJ31, HO_6, HO_174000, HO_174001, BK165, BK166, BK173, BI100032, BI100037, HB⟩ := hcut
                                cases kq with
                                | zero => exact absurd HA.out (by simp [spec_ruBack.j3])
                                | succ kj31 =>
                                  have H := HA.out
                                  clear HA
                                  simp only [spec_ruBack.j3] at H
                                  by_cases c40 : x50_31 = true
                                  · subst c40
                                    have H1 : (spec_ruBack.l2 kj31 x6_3 x7_1 (rdOf ByteArray.empty x174000_1 x7_1) x100033000_2 a1_0 a1_1 a1_2 x174000_3 x174001_3 (x100033000_2 + 1) (rdOf ByteArray.empty x174000_1 x7_1) (x100038000_3 + 1) (rdOf ByteArray.empty x174000_1 x7_1)) = some (r1, r2) := by rw [if_pos rfl] at H; exact H
                                    clear H
                                    have H := H1
                                    clear H1
                                    have H' := Aside0.mk H
                                    clear H
                                    go_wp2
                                    go_roundg kj31
                                    case measure => have := HK1.out; have := HK2.out; have := HK3.out; have := HJ31.out; omega
                                    case rel => exact ⟨(x6_3), (x174000_3), (x174001_3), ((x100038000_3 + 1)), (u174000), (u174001), H', ⟨by have := HK1.out; have := HK2.out; have := HK3.out; have := HJ31.out; omega⟩, ⟨by (with_reducible repeat (first | apply Kd.V_alloc | apply Kd.V_drewN | apply Kd.V_drew)); exact HO_6.out⟩, ⟨by (with_reducible repeat (first | apply Kd.R_alloc | apply Kd.R_drewN | apply Kd.R_drew)); exact HO_174000.out⟩, ⟨by (with_reducible repeat (first | apply Kd.R_alloc | apply Kd.R_drewN | apply Kd.R_drew)); exact HO_174001.out⟩, ⟨by (with_reducible repeat (first | refine blk_drewN ?_ _ | refine blk_drew ?_ | refine blk_alloc ?_ _)); exact BK165.out⟩, ⟨by (with_reducible repeat (first | refine blk_drewN ?_ _ | refine blk_drew ?_ | refine blk_alloc ?_ _)); exact BK166.out⟩, ⟨by (with_reducible repeat (first | refine blk_drewN ?_ _ | refine blk_drew ?_ | refine blk_alloc ?_ _)); exact BK173.out⟩, ⟨by (with_reducible repeat (first | refine blk_drewN ?_ _ | refine blk_drew ?_ | refine blk_alloc ?_ _)); exact BI100032.out⟩, ⟨by (with_reducible repeat (first | refine blk_drewN ?_ _ | refine blk_drew ?_ | refine blk_alloc ?_ _)); exact BI100037.out⟩, ⟨by repeat (first | (with_reducible first | exact HB.out | apply below_alloc | apply pw_below_drewN | apply below_drew1 | refine below_set ?_ GE165.out | refine below_set ?_ GE166.out | refine below_set ?_ GE173.out | refine below_set ?_ GE100032.out | refine below_set ?_ GE100037.out) | exact HB.out)⟩⟩
                                  · replace c40 := Bool.eq_false_iff.mpr c40
                                    subst c40
                                    have H1 : ((spec_liMake.f (rdOf ByteArray.empty x174000_1 x7_1) x100033000_2 x100038000_3).bind fun t178 => ((spec_ruCan.f kj31 t178 x100038000_3 x100033000_2 a1_0 a1_1 a1_2).bind fun t179 => (if t179 = true then ((spec_reAdd.f kj31 x6_3 t178).bind fun t180 => (if (t180.length : Int) = (x6_3.length : Int) then (spec_ruBack.l2 kj31 x6_3 x7_1 (rdOf ByteArray.empty x174000_1 x7_1) x100033000_2 a1_0 a1_1 a1_2 x174000_3 x174001_3 (x100033000_2 + 1) (rdOf ByteArray.empty x174000_1 x7_1) (x100038000_3 + 1) (rdOf ByteArray.empty x174000_1 x7_1)) else (if x174000_3.length < 8796093022208 then (if 0 ≤ x7_1 then (if x7_1 < (x174001_3.length : Int) then (if x174001_3.length < 17592186044416 then (spec_ruBack.l2 kj31 t180 x7_1 (rdOf ByteArray.empty x174000_1 x7_1) x100033000_2 a1_0 a1_1 a1_2 (x174000_3 ++ [t178]) (x174001_3 ++ [wrap64 ((rd x174001_3 x7_1) + 1)]) (x100033000_2 + 1) (rdOf ByteArray.empty x174000_1 x7_1) (x100038000_3 + 1) (rdOf ByteArray.empty x174000_1 x7_1)) else (none)) else (none)) else (none)) else (none)))) else (spec_ruBack.l2 kj31 x6_3 x7_1 (rdOf ByteArray.empty x174000_1 x7_1) x100033000_2 a1_0 a1_1 a1_2 x174000_3 x174001_3 (x100033000_2 + 1) (rdOf ByteArray.empty x174000_1 x7_1) (x100038000_3 + 1) (rdOf ByteArray.empty x174000_1 x7_1))))) = some (r1, r2) := by rw [if_neg (show ¬ (false = true) by decide)] at H; exact H
                                    clear H
                                    have H := H1
                                    clear H1
                                    replace H := Option.bind_eq_some_iff.mp H
                                    obtain ⟨t178, A410, H⟩ := H
                                    replace H : ((spec_ruCan.f kj31 t178 x100038000_3 x100033000_2 a1_0 a1_1 a1_2).bind fun t179 => (if t179 = true then ((spec_reAdd.f kj31 x6_3 t178).bind fun t180 => (if (t180.length : Int) = (x6_3.length : Int) then (spec_ruBack.l2 kj31 x6_3 x7_1 (rdOf ByteArray.empty x174000_1 x7_1) x100033000_2 a1_0 a1_1 a1_2 x174000_3 x174001_3 (x100033000_2 + 1) (rdOf ByteArray.empty x174000_1 x7_1) (x100038000_3 + 1) (rdOf ByteArray.empty x174000_1 x7_1)) else (if x174000_3.length < 8796093022208 then (if 0 ≤ x7_1 then (if x7_1 < (x174001_3.length : Int) then (if x174001_3.length < 17592186044416 then (spec_ruBack.l2 kj31 t180 x7_1 (rdOf ByteArray.empty x174000_1 x7_1) x100033000_2 a1_0 a1_1 a1_2 (x174000_3 ++ [t178]) (x174001_3 ++ [wrap64 ((rd x174001_3 x7_1) + 1)]) (x100033000_2 + 1) (rdOf ByteArray.empty x174000_1 x7_1) (x100038000_3 + 1) (rdOf ByteArray.empty x174000_1 x7_1)) else (none)) else (none)) else (none)) else (none)))) else (spec_ruBack.l2 kj31 x6_3 x7_1 (rdOf ByteArray.empty x174000_1 x7_1) x100033000_2 a1_0 a1_1 a1_2 x174000_3 x174001_3 (x100033000_2 + 1) (rdOf ByteArray.empty x174000_1 x7_1) (x100038000_3 + 1) (rdOf ByteArray.empty x174000_1 x7_1)))) = some (r1, r2) := H
                                    have A41 := Aside0.mk A410
                                    clear A410
                                    replace H := Option.bind_eq_some_iff.mp H
                                    obtain ⟨t179, A420, H⟩ := H
                                    replace H : (if t179 = true then ((spec_reAdd.f kj31 x6_3 t178).bind fun t180 => (if (t180.length : Int) = (x6_3.length : Int) then (spec_ruBack.l2 kj31 x6_3 x7_1 (rdOf ByteArray.empty x174000_1 x7_1) x100033000_2 a1_0 a1_1 a1_2 x174000_3 x174001_3 (x100033000_2 + 1) (rdOf ByteArray.empty x174000_1 x7_1) (x100038000_3 + 1) (rdOf ByteArray.empty x174000_1 x7_1)) else (if x174000_3.length < 8796093022208 then (if 0 ≤ x7_1 then (if x7_1 < (x174001_3.length : Int) then (if x174001_3.length < 17592186044416 then (spec_ruBack.l2 kj31 t180 x7_1 (rdOf ByteArray.empty x174000_1 x7_1) x100033000_2 a1_0 a1_1 a1_2 (x174000_3 ++ [t178]) (x174001_3 ++ [wrap64 ((rd x174001_3 x7_1) + 1)]) (x100033000_2 + 1) (rdOf ByteArray.empty x174000_1 x7_1) (x100038000_3 + 1) (rdOf ByteArray.empty x174000_1 x7_1)) else (none)) else (none)) else (none)) else (none)))) else (spec_ruBack.l2 kj31 x6_3 x7_1 (rdOf ByteArray.empty x174000_1 x7_1) x100033000_2 a1_0 a1_1 a1_2 x174000_3 x174001_3 (x100033000_2 + 1) (rdOf ByteArray.empty x174000_1 x7_1) (x100038000_3 + 1) (rdOf ByteArray.empty x174000_1 x7_1))) = some (r1, r2) := H
                                    have A42 := Aside0.mk A420
                                    clear A420
                                    by_cases c43 : t179 = true
                                    · subst c43
                                      have H1 : ((spec_reAdd.f kj31 x6_3 t178).bind fun t180 => (if (t180.length : Int) = (x6_3.length : Int) then (spec_ruBack.l2 kj31 x6_3 x7_1 (rdOf ByteArray.empty x174000_1 x7_1) x100033000_2 a1_0 a1_1 a1_2 x174000_3 x174001_3 (x100033000_2 + 1) (rdOf ByteArray.empty x174000_1 x7_1) (x100038000_3 + 1) (rdOf ByteArray.empty x174000_1 x7_1)) else (if x174000_3.length < 8796093022208 then (if 0 ≤ x7_1 then (if x7_1 < (x174001_3.length : Int) then (if x174001_3.length < 17592186044416 then (spec_ruBack.l2 kj31 t180 x7_1 (rdOf ByteArray.empty x174000_1 x7_1) x100033000_2 a1_0 a1_1 a1_2 (x174000_3 ++ [t178]) (x174001_3 ++ [wrap64 ((rd x174001_3 x7_1) + 1)]) (x100033000_2 + 1) (rdOf ByteArray.empty x174000_1 x7_1) (x100038000_3 + 1) (rdOf ByteArray.empty x174000_1 x7_1)) else (none)) else (none)) else (none)) else (none)))) = some (r1, r2) := by rw [if_pos rfl] at H; exact H
                                      clear H
                                      have H := H1
                                      clear H1
                                      replace H := Option.bind_eq_some_iff.mp H
                                      obtain ⟨t180, A440, H⟩ := H
                                      replace H : (if (t180.length : Int) = (x6_3.length : Int) then (spec_ruBack.l2 kj31 x6_3 x7_1 (rdOf ByteArray.empty x174000_1 x7_1) x100033000_2 a1_0 a1_1 a1_2 x174000_3 x174001_3 (x100033000_2 + 1) (rdOf ByteArray.empty x174000_1 x7_1) (x100038000_3 + 1) (rdOf ByteArray.empty x174000_1 x7_1)) else (if x174000_3.length < 8796093022208 then (if 0 ≤ x7_1 then (if x7_1 < (x174001_3.length : Int) then (if x174001_3.length < 17592186044416 then (spec_ruBack.l2 kj31 t180 x7_1 (rdOf ByteArray.empty x174000_1 x7_1) x100033000_2 a1_0 a1_1 a1_2 (x174000_3 ++ [t178]) (x174001_3 ++ [wrap64 ((rd x174001_3 x7_1) + 1)]) (x100033000_2 + 1) (rdOf ByteArray.empty x174000_1 x7_1) (x100038000_3 + 1) (rdOf ByteArray.empty x174000_1 x7_1)) else (none)) else (none)) else (none)) else (none))) = some (r1, r2) := H
                                      have A44 := Aside0.mk A440
                                      clear A440
                                      by_cases c45 : (t180.length : Int) = (x6_3.length : Int)
                                      · rw [if_pos c45] at H
                                        have c45b0 : ((t180.length : Int) == (x6_3.length : Int)) = true := beq_iff_eq.mpr c45
                                        have c45b1 : ((t180.length : Int) != (x6_3.length : Int)) = false := bne_eq_false_iff_eq.mpr c45
                                        have c45b2 : (t180.length == x6_3.length) = true := by first | simpa using c45 | (simp at c45 ⊢; omega)
                                        clear c45
                                        have H' := Aside0.mk H
                                        clear H
                                        go_wp2_with (first | ((with_reducible refine gate_callee (f := 74) rfl ?_); refine goesL_ (some 55) rfl rfl Tryd.func74 (by kernel_rfl) rfl #[.string (rdOf ByteArray.empty x174000_1 x7_1), .agg #[.int .i64 x100033000_2, .int .i64 x100038000_3]] rfl (by (try simp only [List.map_toArray, List.map_cons, List.map_nil]); first | done | rfl | (simp only [List.length_drop, List.length_take]; rfl)) ?_; (with_reducible refine (spec_liMake.calls (rdOf ByteArray.empty x174000_1 x7_1) x100033000_2 x100038000_3 t178 _ A41.out).mono ?_); rintro e w46 ⟨rfl, hb⟩; refine ⟨_, rfl, ?_⟩; have n0_ := Aside0.mk (Kd.V_below (by (with_reducible repeat (first | apply Kd.V_alloc | apply Kd.V_drewN | apply Kd.V_drew)); exact HO_6.out) hb); have n1_ := Aside0.mk (Kd.R_below (by (with_reducible repeat (first | apply Kd.R_alloc | apply Kd.R_drewN | apply Kd.R_drew)); exact HO_174000.out) hb); have n2_ := Aside0.mk (Kd.R_below (by (with_reducible repeat (first | apply Kd.R_alloc | apply Kd.R_drewN | apply Kd.R_drew)); exact HO_174001.out) hb); have n3_ := Aside0.mk (blk_below (g := gb165) (o := .cells #[.bool a1_0, .bool a1_1, .bool a1_2] 32 (0, 0)) (by (with_reducible repeat (first | refine blk_drewN ?_ _ | refine blk_drew ?_ | refine blk_alloc ?_ _)); exact BK165.out) hb); have n4_ := Aside0.mk (blk_below (g := gb166) (o := .cells #[.slice none 0 0, .slice none 0 0] 72 (0, 0)) (by (with_reducible repeat (first | refine blk_drewN ?_ _ | refine blk_drew ?_ | refine blk_alloc ?_ _)); exact BK166.out) hb); have n5_ := Aside0.mk (blk_below (g := gb173) (o := .cells #[u174000, u174001] 72 (0, 0)) (by (with_reducible repeat (first | refine blk_drewN ?_ _ | refine blk_drew ?_ | refine blk_alloc ?_ _)); exact BK173.out) hb); have n6_ := Aside0.mk (blk_below (g := gb100032) (o := .stringIter (rdOf ByteArray.empty x174000_1 x7_1) ((x100033000_2 + 1) : Int).toNat) (by (with_reducible repeat (first | refine blk_drewN ?_ _ | refine blk_drew ?_ | refine blk_alloc ?_ _)); exact BI100032.out) hb); have n7_ := Aside0.mk (blk_below (g := gb100037) (o := .stringIter (rdOf ByteArray.empty x174000_1 x7_1) ((x100038000_3 + 1) : Int).toNat) (by (with_reducible repeat (first | refine blk_drewN ?_ _ | refine blk_drew ?_ | refine blk_alloc ?_ _)); exact BI100037.out) hb); have n8_ := Aside0.mk (below_step (by repeat (first | (with_reducible first | exact HB.out | apply below_alloc | apply pw_below_drewN | apply below_drew1 | refine below_set ?_ GE165.out | refine below_set ?_ GE166.out | refine below_set ?_ GE173.out | refine below_set ?_ GE100032.out | refine below_set ?_ GE100037.out) | exact HB.out)) hb); clear HO_6; clear HO_174000; clear HO_174001; clear BK165; clear BK166; clear BK173; clear BI100032; clear BI100037; clear HB; have HO_6 := n0_; have HO_174000 := n1_; have HO_174001 := n2_; have BK165 := n3_; have BK166 := n4_; have BK173 := n5_; have BI100032 := n6_; have BI100037 := n7_; have HB := n8_; clear n0_ n1_ n2_ n3_ n4_ n5_ n6_ n7_ n8_; (try clear hb); (try clear hb2); (try clear hk); (try clear hi); have hnb47 := NB165_166.out; have hnc47 := NB166_165.out; have hnb48 := NB165_173.out; have hnc48 := NB173_165.out; have hnb49 := NB165_100032.out; have hnc49 := NB100032_165.out; have hnb50 := NB165_100037.out; have hnc50 := NB100037_165.out; have hcz51_0 : w46.cell? ⟨gb165, 0, none⟩ = some (.bool a1_0) := (blk_cell BK165.out 0).trans rfl; have hcz51_1 : w46.cell? ⟨gb165, 1, none⟩ = some (.bool a1_1) := (blk_cell BK165.out 1).trans rfl; have hcz51_2 : w46.cell? ⟨gb165, 2, none⟩ = some (.bool a1_2) := (blk_cell BK165.out 2).trans rfl; have hfz51_0 := blk_frozen BK165.out 0; have hfz51_1 := blk_frozen BK165.out 1; have hfz51_2 := blk_frozen BK165.out 2) | ((with_reducible refine gate_callee (f := 94) rfl ?_); refine goesL_ (some 61) rfl rfl Tryd.func94 (by kernel_rfl) rfl #[.string t178, .agg #[.int .i64 x100038000_3, .int .i64 x100033000_2], .agg #[.bool a1_0, .bool a1_1, .bool a1_2]] rfl (by (try simp only [List.map_toArray, List.map_cons, List.map_nil]); first | done | rfl | (simp only [List.length_drop, List.length_take]; rfl)) ?_; (with_reducible refine (spec_ruCan.calls kj31 t178 x100038000_3 x100033000_2 a1_0 a1_1 a1_2 true _ A42.out).mono ?_); rintro e w52 ⟨rfl, hb⟩; refine ⟨_, rfl, ?_⟩; have n0_ := Aside0.mk (Kd.V_below (by (with_reducible repeat (first | apply Kd.V_alloc | apply Kd.V_drewN | apply Kd.V_drew)); exact HO_6.out) hb); have n1_ := Aside0.mk (Kd.R_below (by (with_reducible repeat (first | apply Kd.R_alloc | apply Kd.R_drewN | apply Kd.R_drew)); exact HO_174000.out) hb); have n2_ := Aside0.mk (Kd.R_below (by (with_reducible repeat (first | apply Kd.R_alloc | apply Kd.R_drewN | apply Kd.R_drew)); exact HO_174001.out) hb); have n3_ := Aside0.mk (blk_below (g := gb165) (o := .cells #[.bool a1_0, .bool a1_1, .bool a1_2] 32 (0, 0)) (by (with_reducible repeat (first | refine blk_drewN ?_ _ | refine blk_drew ?_ | refine blk_alloc ?_ _)); exact BK165.out) hb); have n4_ := Aside0.mk (blk_below (g := gb166) (o := .cells #[.slice none 0 0, .slice none 0 0] 72 (0, 0)) (by (with_reducible repeat (first | refine blk_drewN ?_ _ | refine blk_drew ?_ | refine blk_alloc ?_ _)); exact BK166.out) hb); have n5_ := Aside0.mk (blk_below (g := gb173) (o := .cells #[u174000, u174001] 72 (0, 0)) (by (with_reducible repeat (first | refine blk_drewN ?_ _ | refine blk_drew ?_ | refine blk_alloc ?_ _)); exact BK173.out) hb); have n6_ := Aside0.mk (blk_below (g := gb100032) (o := .stringIter (rdOf ByteArray.empty x174000_1 x7_1) ((x100033000_2 + 1) : Int).toNat) (by (with_reducible repeat (first | refine blk_drewN ?_ _ | refine blk_drew ?_ | refine blk_alloc ?_ _)); exact BI100032.out) hb); have n7_ := Aside0.mk (blk_below (g := gb100037) (o := .stringIter (rdOf ByteArray.empty x174000_1 x7_1) ((x100038000_3 + 1) : Int).toNat) (by (with_reducible repeat (first | refine blk_drewN ?_ _ | refine blk_drew ?_ | refine blk_alloc ?_ _)); exact BI100037.out) hb); have n8_ := Aside0.mk (below_step (by repeat (first | (with_reducible first | exact HB.out | apply below_alloc | apply pw_below_drewN | apply below_drew1 | refine below_set ?_ GE165.out | refine below_set ?_ GE166.out | refine below_set ?_ GE173.out | refine below_set ?_ GE100032.out | refine below_set ?_ GE100037.out) | exact HB.out)) hb); clear HO_6; clear HO_174000; clear HO_174001; clear BK165; clear BK166; clear BK173; clear BI100032; clear BI100037; clear HB; have HO_6 := n0_; have HO_174000 := n1_; have HO_174001 := n2_; have BK165 := n3_; have BK166 := n4_; have BK173 := n5_; have BI100032 := n6_; have BI100037 := n7_; have HB := n8_; clear n0_ n1_ n2_ n3_ n4_ n5_ n6_ n7_ n8_; (try clear hb); (try clear hb2); (try clear hk); (try clear hi); obtain ⟨Ao53, co53, eo53⟩ := Kd.V_slice HO_6.out; subst eo53) | ((with_reducible refine gate_callee (f := 91) rfl ?_); refine goesL_ (some 65) rfl rfl Tryd.func91 (by kernel_rfl) rfl #[.slice Ao53 x6_3.length co53, .string t178] rfl (by (try simp only [List.map_toArray, List.map_cons, List.map_nil]); first | done | rfl | (simp only [List.length_drop, List.length_take]; rfl)) ?_; (with_reducible refine (spec_reAdd.calls kj31 (fun k_ => (some k_ ≠ (u174000 : Value).ownBlock ∧ (some k_ ≠ (u174001 : Value).ownBlock ∧ (k_ ≠ gb165 ∧ (k_ ≠ gb166 ∧ (k_ ≠ gb173 ∧ (k_ ≠ gb100032 ∧ k_ ≠ gb100037))))))) _ _ x6_3 t178 t180 _ ?side1 A44.out).mono ?_); (case side1 => exact HO_6.out); rintro e w54 ⟨v181, rfl, ho0, hb⟩; refine ⟨_, rfl, ?_⟩; have n0_ := Aside0.mk (Kd.V_below (by (with_reducible repeat (first | apply Kd.V_alloc | apply Kd.V_drewN | apply Kd.V_drew)); exact HO_6.out) hb); have n1_ := Aside0.mk (Kd.R_below (by (with_reducible repeat (first | apply Kd.R_alloc | apply Kd.R_drewN | apply Kd.R_drew)); exact HO_174000.out) hb); have n2_ := Aside0.mk (Kd.R_below (by (with_reducible repeat (first | apply Kd.R_alloc | apply Kd.R_drewN | apply Kd.R_drew)); exact HO_174001.out) hb); have n3_ := Aside0.mk (Kd.V_lower (Kd.V_mono (ok' := fun k_ => some k_ ≠ (u174000 : Value).ownBlock ∧ some k_ ≠ (u174001 : Value).ownBlock ∧ k_ ≠ gb165 ∧ k_ ≠ gb166 ∧ k_ ≠ gb173 ∧ k_ ≠ gb100032 ∧ k_ ≠ gb100037) ho0 (fun k_ hk_ => ⟨Or.elim hk_ (fun hs_ => hs_.1) (fun hn_ => (Kd.fresh' (Kd.R_lt (by (with_reducible repeat (first | apply Kd.R_alloc | apply Kd.R_drewN | apply Kd.R_drew)); exact HO_174000.out)) k_ hn_)), Or.elim hk_ (fun hs_ => hs_.2.1) (fun hn_ => (Kd.fresh' (Kd.R_lt (by (with_reducible repeat (first | apply Kd.R_alloc | apply Kd.R_drewN | apply Kd.R_drew)); exact HO_174001.out)) k_ hn_)), Or.elim hk_ (fun hs_ => hs_.2.2.1) (fun hn_ => (Kd.freshB (g := gb165) (o := .cells #[.bool a1_0, .bool a1_1, .bool a1_2] 32 (0, 0)) (by (with_reducible repeat (first | refine blk_drewN ?_ _ | refine blk_drew ?_ | refine blk_alloc ?_ _)); exact BK165.out) k_ hn_)), Or.elim hk_ (fun hs_ => hs_.2.2.2.1) (fun hn_ => (Kd.freshB (g := gb166) (o := .cells #[.slice none 0 0, .slice none 0 0] 72 (0, 0)) (by (with_reducible repeat (first | refine blk_drewN ?_ _ | refine blk_drew ?_ | refine blk_alloc ?_ _)); exact BK166.out) k_ hn_)), Or.elim hk_ (fun hs_ => hs_.2.2.2.2.1) (fun hn_ => (Kd.freshB (g := gb173) (o := .cells #[u174000, u174001] 72 (0, 0)) (by (with_reducible repeat (first | refine blk_drewN ?_ _ | refine blk_drew ?_ | refine blk_alloc ?_ _)); exact BK173.out) k_ hn_)), Or.elim hk_ (fun hs_ => hs_.2.2.2.2.2.1) (fun hn_ => (Kd.freshB (g := gb100032) (o := .stringIter (rdOf ByteArray.empty x174000_1 x7_1) ((x100033000_2 + 1) : Int).toNat) (by (with_reducible repeat (first | refine blk_drewN ?_ _ | refine blk_drew ?_ | refine blk_alloc ?_ _)); exact BI100032.out) k_ hn_)), Or.elim hk_ (fun hs_ => hs_.2.2.2.2.2.2) (fun hn_ => (Kd.freshB (g := gb100037) (o := .stringIter (rdOf ByteArray.empty x174000_1 x7_1) ((x100038000_3 + 1) : Int).toNat) (by (with_reducible repeat (first | refine blk_drewN ?_ _ | refine blk_drew ?_ | refine blk_alloc ?_ _)); exact BI100037.out) k_ hn_))⟩)) (below_size (by repeat (first | (with_reducible first | exact HB.out | apply below_alloc | apply pw_below_drewN | apply below_drew1 | refine below_set ?_ GE165.out | refine below_set ?_ GE166.out | refine below_set ?_ GE173.out | refine below_set ?_ GE100032.out | refine below_set ?_ GE100037.out) | exact HB.out)))); have n4_ := Aside0.mk (blk_below (g := gb165) (o := .cells #[.bool a1_0, .bool a1_1, .bool a1_2] 32 (0, 0)) (by (with_reducible repeat (first | refine blk_drewN ?_ _ | refine blk_drew ?_ | refine blk_alloc ?_ _)); exact BK165.out) hb); have n5_ := Aside0.mk (blk_below (g := gb166) (o := .cells #[.slice none 0 0, .slice none 0 0] 72 (0, 0)) (by (with_reducible repeat (first | refine blk_drewN ?_ _ | refine blk_drew ?_ | refine blk_alloc ?_ _)); exact BK166.out) hb); have n6_ := Aside0.mk (blk_below (g := gb173) (o := .cells #[u174000, u174001] 72 (0, 0)) (by (with_reducible repeat (first | refine blk_drewN ?_ _ | refine blk_drew ?_ | refine blk_alloc ?_ _)); exact BK173.out) hb); have n7_ := Aside0.mk (blk_below (g := gb100032) (o := .stringIter (rdOf ByteArray.empty x174000_1 x7_1) ((x100033000_2 + 1) : Int).toNat) (by (with_reducible repeat (first | refine blk_drewN ?_ _ | refine blk_drew ?_ | refine blk_alloc ?_ _)); exact BI100032.out) hb); have n8_ := Aside0.mk (blk_below (g := gb100037) (o := .stringIter (rdOf ByteArray.empty x174000_1 x7_1) ((x100038000_3 + 1) : Int).toNat) (by (with_reducible repeat (first | refine blk_drewN ?_ _ | refine blk_drew ?_ | refine blk_alloc ?_ _)); exact BI100037.out) hb); have n9_ := Aside0.mk (below_step (by repeat (first | (with_reducible first | exact HB.out | apply below_alloc | apply pw_below_drewN | apply below_drew1 | refine below_set ?_ GE165.out | refine below_set ?_ GE166.out | refine below_set ?_ GE173.out | refine below_set ?_ GE100032.out | refine below_set ?_ GE100037.out) | exact HB.out)) hb); clear HO_6; clear HO_174000; clear HO_174001; clear BK165; clear BK166; clear BK173; clear BI100032; clear BI100037; clear HB; have HO_6 := n0_; have HO_174000 := n1_; have HO_174001 := n2_; have HO182 := n3_; have BK165 := n4_; have BK166 := n5_; have BK173 := n6_; have BI100032 := n7_; have BI100037 := n8_; have HB := n9_; clear n0_ n1_ n2_ n3_ n4_ n5_ n6_ n7_ n8_ n9_; (try clear hb); (try clear hb2); (try clear hk); (try clear hi); (try clear ho0); obtain ⟨Ao55, co55, eo55⟩ := Kd.V_slice HO182.out; subst eo55))
                                        go_roundg kj31
                                        case measure => have := HK1.out; have := HK2.out; have := HK3.out; have := HJ31.out; omega
                                        case rel => exact ⟨(x6_3), (x174000_3), (x174001_3), ((x100038000_3 + 1)), (u174000), (u174001), H', ⟨by have := HK1.out; have := HK2.out; have := HK3.out; have := HJ31.out; omega⟩, ⟨by (with_reducible repeat (first | apply Kd.V_alloc | apply Kd.V_drewN | apply Kd.V_drew)); exact HO_6.out⟩, ⟨by (with_reducible repeat (first | apply Kd.R_alloc | apply Kd.R_drewN | apply Kd.R_drew)); exact HO_174000.out⟩, ⟨by (with_reducible repeat (first | apply Kd.R_alloc | apply Kd.R_drewN | apply Kd.R_drew)); exact HO_174001.out⟩, ⟨by (with_reducible repeat (first | refine blk_drewN ?_ _ | refine blk_drew ?_ | refine blk_alloc ?_ _)); exact BK165.out⟩, ⟨by (with_reducible repeat (first | refine blk_drewN ?_ _ | refine blk_drew ?_ | refine blk_alloc ?_ _)); exact BK166.out⟩, ⟨by (with_reducible repeat (first | refine blk_drewN ?_ _ | refine blk_drew ?_ | refine blk_alloc ?_ _)); exact BK173.out⟩, ⟨by (with_reducible repeat (first | refine blk_drewN ?_ _ | refine blk_drew ?_ | refine blk_alloc ?_ _)); exact BI100032.out⟩, ⟨by (with_reducible repeat (first | refine blk_drewN ?_ _ | refine blk_drew ?_ | refine blk_alloc ?_ _)); exact BI100037.out⟩, ⟨by repeat (first | (with_reducible first | exact HB.out | apply below_alloc | apply pw_below_drewN | apply below_drew1 | refine below_set ?_ GE165.out | refine below_set ?_ GE166.out | refine below_set ?_ GE173.out | refine below_set ?_ GE100032.out | refine below_set ?_ GE100037.out) | exact HB.out)⟩⟩
                                      · rw [if_neg c45] at H
                                        have c45b0 : ((t180.length : Int) == (x6_3.length : Int)) = false := beq_eq_false_iff_ne.mpr c45
                                        have c45b1 : ((t180.length : Int) != (x6_3.length : Int)) = true := bne_iff_ne.mpr c45
                                        have c45b2 : (t180.length == x6_3.length) = false := by first | simpa using c45 | (simp at c45 ⊢; omega)
                                        by_cases c56 : x174000_3.length < 8796093022208
                                        · rw [if_pos c56] at H
                                          have LMc56 := Aside0.mk c56
                                          clear c56
                                          obtain ⟨y183, hy183⟩ : ∃ y_ : List ByteArray, y_ = (x174000_3 ++ [t178]) := ⟨_, rfl⟩
                                          replace H : (if 0 ≤ x7_1 then (if x7_1 < (x174001_3.length : Int) then (if x174001_3.length < 17592186044416 then (spec_ruBack.l2 kj31 t180 x7_1 (rdOf ByteArray.empty x174000_1 x7_1) x100033000_2 a1_0 a1_1 a1_2 y183 (x174001_3 ++ [wrap64 ((rd x174001_3 x7_1) + 1)]) (x100033000_2 + 1) (rdOf ByteArray.empty x174000_1 x7_1) (x100038000_3 + 1) (rdOf ByteArray.empty x174000_1 x7_1)) else (none)) else (none)) else (none)) = some (r1, r2) := by first | (rw [hy183]; with_reducible exact H) | (have H2_ := (Option.bind_some _ _).symm.trans H; rw [hy183]; with_reducible exact H2_) | (have H2_ := (Option.bind_some _ _).symm.trans H; with_reducible exact H2_) | with_reducible exact H | (rw [hy183]; exact H) | exact H
                                          have Ny183 := Aside0.mk hy183
                                          clear hy183
                                          by_cases c57 : 0 ≤ x7_1
                                          · rw [if_pos c57] at H
                                            have c57b0 : decide (0 ≤ x7_1) = true := decide_eq_true c57
                                            clear c57
                                            by_cases c58 : x7_1 < (x174001_3.length : Int)
                                            · rw [if_pos c58] at H
                                              have c58b0 : decide (x7_1 < (x174001_3.length : Int)) = true := decide_eq_true c58
                                              clear c58
                                              by_cases c59 : x174001_3.length < 17592186044416
                                              · rw [if_pos c59] at H
                                                have LMc59 := Aside0.mk c59
                                                clear c59
                                                obtain ⟨y187, hy187⟩ : ∃ y_ : List Int, y_ = (x174001_3 ++ [wrap64 ((rd x174001_3 x7_1) + 1)]) := ⟨_, rfl⟩
                                                replace H : (spec_ruBack.l2 kj31 t180 x7_1 (rdOf ByteArray.empty x174000_1 x7_1) x100033000_2 a1_0 a1_1 a1_2 y183 y187 (x100033000_2 + 1) (rdOf ByteArray.empty x174000_1 x7_1) (x100038000_3 + 1) (rdOf ByteArray.empty x174000_1 x7_1)) = some (r1, r2) := by first | (rw [hy187]; with_reducible exact H) | (have H2_ := (Option.bind_some _ _).symm.trans H; rw [hy187]; with_reducible exact H2_) | (have H2_ := (Option.bind_some _ _).symm.trans H; with_reducible exact H2_) | with_reducible exact H | (rw [hy187]; exact H) | exact H
                                                have Ny187 := Aside0.mk hy187
                                                clear hy187
                                                have H' := Aside0.mk H
                                                clear H
                                                try go_wp2_with (first | ((with_reducible refine gate_callee (f := 74) rfl ?_); refine goesL_ (some 55) rfl rfl Tryd.func74 (by kernel_rfl) rfl #[.string (rdOf ByteArray.empty x174000_1 x7_1), .agg #[.int .i64 x100033000_2, .int .i64 x100038000_3]] rfl (by (try simp only [List.map_toArray, List.map_cons, List.map_nil]); first | done | rfl | (simp only [List.length_drop, List.length_take]; rfl)) ?_; (with_reducible refine (spec_liMake.calls (rdOf ByteArray.empty x174000_1 x7_1) x100033000_2 x100038000_3 t178 _ A41.out).mono ?_); rintro e w60 ⟨rfl, hb⟩; refine ⟨_, rfl, ?_⟩; have n0_ := Aside0.mk (Kd.V_below (by (with_reducible repeat (first | apply Kd.V_alloc | apply Kd.V_drewN | apply Kd.V_drew)); exact HO_6.out) hb); have n1_ := Aside0.mk (Kd.R_below (by (with_reducible repeat (first | apply Kd.R_alloc | apply Kd.R_drewN | apply Kd.R_drew)); exact HO_174000.out) hb); have n2_ := Aside0.mk (Kd.R_below (by (with_reducible repeat (first | apply Kd.R_alloc | apply Kd.R_drewN | apply Kd.R_drew)); exact HO_174001.out) hb); have n3_ := Aside0.mk (blk_below (g := gb165) (o := .cells #[.bool a1_0, .bool a1_1, .bool a1_2] 32 (0, 0)) (by (with_reducible repeat (first | refine blk_drewN ?_ _ | refine blk_drew ?_ | refine blk_alloc ?_ _)); exact BK165.out) hb); have n4_ := Aside0.mk (blk_below (g := gb166) (o := .cells #[.slice none 0 0, .slice none 0 0] 72 (0, 0)) (by (with_reducible repeat (first | refine blk_drewN ?_ _ | refine blk_drew ?_ | refine blk_alloc ?_ _)); exact BK166.out) hb); have n5_ := Aside0.mk (blk_below (g := gb173) (o := .cells #[u174000, u174001] 72 (0, 0)) (by (with_reducible repeat (first | refine blk_drewN ?_ _ | refine blk_drew ?_ | refine blk_alloc ?_ _)); exact BK173.out) hb); have n6_ := Aside0.mk (blk_below (g := gb100032) (o := .stringIter (rdOf ByteArray.empty x174000_1 x7_1) ((x100033000_2 + 1) : Int).toNat) (by (with_reducible repeat (first | refine blk_drewN ?_ _ | refine blk_drew ?_ | refine blk_alloc ?_ _)); exact BI100032.out) hb); have n7_ := Aside0.mk (blk_below (g := gb100037) (o := .stringIter (rdOf ByteArray.empty x174000_1 x7_1) ((x100038000_3 + 1) : Int).toNat) (by (with_reducible repeat (first | refine blk_drewN ?_ _ | refine blk_drew ?_ | refine blk_alloc ?_ _)); exact BI100037.out) hb); have n8_ := Aside0.mk (below_step (by repeat (first | (with_reducible first | exact HB.out | apply below_alloc | apply pw_below_drewN | apply below_drew1 | refine below_set ?_ GE165.out | refine below_set ?_ GE166.out | refine below_set ?_ GE173.out | refine below_set ?_ GE100032.out | refine below_set ?_ GE100037.out) | exact HB.out)) hb); clear HO_6; clear HO_174000; clear HO_174001; clear BK165; clear BK166; clear BK173; clear BI100032; clear BI100037; clear HB; have HO_6 := n0_; have HO_174000 := n1_; have HO_174001 := n2_; have BK165 := n3_; have BK166 := n4_; have BK173 := n5_; have BI100032 := n6_; have BI100037 := n7_; have HB := n8_; clear n0_ n1_ n2_ n3_ n4_ n5_ n6_ n7_ n8_; (try clear hb); (try clear hb2); (try clear hk); (try clear hi); have hnb61 := NB165_166.out; have hnc61 := NB166_165.out; have hnb62 := NB165_173.out; have hnc62 := NB173_165.out; have hnb63 := NB165_100032.out; have hnc63 := NB100032_165.out; have hnb64 := NB165_100037.out; have hnc64 := NB100037_165.out; have hcz65_0 : w60.cell? ⟨gb165, 0, none⟩ = some (.bool a1_0) := (blk_cell BK165.out 0).trans rfl; have hcz65_1 : w60.cell? ⟨gb165, 1, none⟩ = some (.bool a1_1) := (blk_cell BK165.out 1).trans rfl; have hcz65_2 : w60.cell? ⟨gb165, 2, none⟩ = some (.bool a1_2) := (blk_cell BK165.out 2).trans rfl; have hfz65_0 := blk_frozen BK165.out 0; have hfz65_1 := blk_frozen BK165.out 1; have hfz65_2 := blk_frozen BK165.out 2) | ((with_reducible refine gate_callee (f := 94) rfl ?_); refine goesL_ (some 61) rfl rfl Tryd.func94 (by kernel_rfl) rfl #[.string t178, .agg #[.int .i64 x100038000_3, .int .i64 x100033000_2], .agg #[.bool a1_0, .bool a1_1, .bool a1_2]] rfl (by (try simp only [List.map_toArray, List.map_cons, List.map_nil]); first | done | rfl | (simp only [List.length_drop, List.length_take]; rfl)) ?_; (with_reducible refine (spec_ruCan.calls kj31 t178 x100038000_3 x100033000_2 a1_0 a1_1 a1_2 true _ A42.out).mono ?_); rintro e w66 ⟨rfl, hb⟩; refine ⟨_, rfl, ?_⟩; have n0_ := Aside0.mk (Kd.V_below (by (with_reducible repeat (first | apply Kd.V_alloc | apply Kd.V_drewN | apply Kd.V_drew)); exact HO_6.out) hb); have n1_ := Aside0.mk (Kd.R_below (by (with_reducible repeat (first | apply Kd.R_alloc | apply Kd.R_drewN | apply Kd.R_drew)); exact HO_174000.out) hb); have n2_ := Aside0.mk (Kd.R_below (by (with_reducible repeat (first | apply Kd.R_alloc | apply Kd.R_drewN | apply Kd.R_drew)); exact HO_174001.out) hb); have n3_ := Aside0.mk (blk_below (g := gb165) (o := .cells #[.bool a1_0, .bool a1_1, .bool a1_2] 32 (0, 0)) (by (with_reducible repeat (first | refine blk_drewN ?_ _ | refine blk_drew ?_ | refine blk_alloc ?_ _)); exact BK165.out) hb); have n4_ := Aside0.mk (blk_below (g := gb166) (o := .cells #[.slice none 0 0, .slice none 0 0] 72 (0, 0)) (by (with_reducible repeat (first | refine blk_drewN ?_ _ | refine blk_drew ?_ | refine blk_alloc ?_ _)); exact BK166.out) hb); have n5_ := Aside0.mk (blk_below (g := gb173) (o := .cells #[u174000, u174001] 72 (0, 0)) (by (with_reducible repeat (first | refine blk_drewN ?_ _ | refine blk_drew ?_ | refine blk_alloc ?_ _)); exact BK173.out) hb); have n6_ := Aside0.mk (blk_below (g := gb100032) (o := .stringIter (rdOf ByteArray.empty x174000_1 x7_1) ((x100033000_2 + 1) : Int).toNat) (by (with_reducible repeat (first | refine blk_drewN ?_ _ | refine blk_drew ?_ | refine blk_alloc ?_ _)); exact BI100032.out) hb); have n7_ := Aside0.mk (blk_below (g := gb100037) (o := .stringIter (rdOf ByteArray.empty x174000_1 x7_1) ((x100038000_3 + 1) : Int).toNat) (by (with_reducible repeat (first | refine blk_drewN ?_ _ | refine blk_drew ?_ | refine blk_alloc ?_ _)); exact BI100037.out) hb); have n8_ := Aside0.mk (below_step (by repeat (first | (with_reducible first | exact HB.out | apply below_alloc | apply pw_below_drewN | apply below_drew1 | refine below_set ?_ GE165.out | refine below_set ?_ GE166.out | refine below_set ?_ GE173.out | refine below_set ?_ GE100032.out | refine below_set ?_ GE100037.out) | exact HB.out)) hb); clear HO_6; clear HO_174000; clear HO_174001; clear BK165; clear BK166; clear BK173; clear BI100032; clear BI100037; clear HB; have HO_6 := n0_; have HO_174000 := n1_; have HO_174001 := n2_; have BK165 := n3_; have BK166 := n4_; have BK173 := n5_; have BI100032 := n6_; have BI100037 := n7_; have HB := n8_; clear n0_ n1_ n2_ n3_ n4_ n5_ n6_ n7_ n8_; (try clear hb); (try clear hb2); (try clear hk); (try clear hi); obtain ⟨Ao67, co67, eo67⟩ := Kd.V_slice HO_6.out; subst eo67) | ((with_reducible refine gate_callee (f := 91) rfl ?_); refine goesL_ (some 65) rfl rfl Tryd.func91 (by kernel_rfl) rfl #[.slice Ao67 x6_3.length co67, .string t178] rfl (by (try simp only [List.map_toArray, List.map_cons, List.map_nil]); first | done | rfl | (simp only [List.length_drop, List.length_take]; rfl)) ?_; (with_reducible refine (spec_reAdd.calls kj31 (fun k_ => (some k_ ≠ (u174000 : Value).ownBlock ∧ (some k_ ≠ (u174001 : Value).ownBlock ∧ (k_ ≠ gb165 ∧ (k_ ≠ gb166 ∧ (k_ ≠ gb173 ∧ (k_ ≠ gb100032 ∧ k_ ≠ gb100037))))))) _ _ x6_3 t178 t180 _ ?side1 A44.out).mono ?_); (case side1 => exact HO_6.out); rintro e w68 ⟨v181, rfl, ho0, hb⟩; refine ⟨_, rfl, ?_⟩; have n0_ := Aside0.mk (Kd.V_below (by (with_reducible repeat (first | apply Kd.V_alloc | apply Kd.V_drewN | apply Kd.V_drew)); exact HO_6.out) hb); have n1_ := Aside0.mk (Kd.R_below (by (with_reducible repeat (first | apply Kd.R_alloc | apply Kd.R_drewN | apply Kd.R_drew)); exact HO_174000.out) hb); have n2_ := Aside0.mk (Kd.R_below (by (with_reducible repeat (first | apply Kd.R_alloc | apply Kd.R_drewN | apply Kd.R_drew)); exact HO_174001.out) hb); have n3_ := Aside0.mk (Kd.V_lower (Kd.V_mono (ok' := fun k_ => some k_ ≠ (u174000 : Value).ownBlock ∧ some k_ ≠ (u174001 : Value).ownBlock ∧ k_ ≠ gb165 ∧ k_ ≠ gb166 ∧ k_ ≠ gb173 ∧ k_ ≠ gb100032 ∧ k_ ≠ gb100037) ho0 (fun k_ hk_ => ⟨Or.elim hk_ (fun hs_ => hs_.1) (fun hn_ => (Kd.fresh' (Kd.R_lt (by (with_reducible repeat (first | apply Kd.R_alloc | apply Kd.R_drewN | apply Kd.R_drew)); exact HO_174000.out)) k_ hn_)), Or.elim hk_ (fun hs_ => hs_.2.1) (fun hn_ => (Kd.fresh' (Kd.R_lt (by (with_reducible repeat (first | apply Kd.R_alloc | apply Kd.R_drewN | apply Kd.R_drew)); exact HO_174001.out)) k_ hn_)), Or.elim hk_ (fun hs_ => hs_.2.2.1) (fun hn_ => (Kd.freshB (g := gb165) (o := .cells #[.bool a1_0, .bool a1_1, .bool a1_2] 32 (0, 0)) (by (with_reducible repeat (first | refine blk_drewN ?_ _ | refine blk_drew ?_ | refine blk_alloc ?_ _)); exact BK165.out) k_ hn_)), Or.elim hk_ (fun hs_ => hs_.2.2.2.1) (fun hn_ => (Kd.freshB (g := gb166) (o := .cells #[.slice none 0 0, .slice none 0 0] 72 (0, 0)) (by (with_reducible repeat (first | refine blk_drewN ?_ _ | refine blk_drew ?_ | refine blk_alloc ?_ _)); exact BK166.out) k_ hn_)), Or.elim hk_ (fun hs_ => hs_.2.2.2.2.1) (fun hn_ => (Kd.freshB (g := gb173) (o := .cells #[u174000, u174001] 72 (0, 0)) (by (with_reducible repeat (first | refine blk_drewN ?_ _ | refine blk_drew ?_ | refine blk_alloc ?_ _)); exact BK173.out) k_ hn_)), Or.elim hk_ (fun hs_ => hs_.2.2.2.2.2.1) (fun hn_ => (Kd.freshB (g := gb100032) (o := .stringIter (rdOf ByteArray.empty x174000_1 x7_1) ((x100033000_2 + 1) : Int).toNat) (by (with_reducible repeat (first | refine blk_drewN ?_ _ | refine blk_drew ?_ | refine blk_alloc ?_ _)); exact BI100032.out) k_ hn_)), Or.elim hk_ (fun hs_ => hs_.2.2.2.2.2.2) (fun hn_ => (Kd.freshB (g := gb100037) (o := .stringIter (rdOf ByteArray.empty x174000_1 x7_1) ((x100038000_3 + 1) : Int).toNat) (by (with_reducible repeat (first | refine blk_drewN ?_ _ | refine blk_drew ?_ | refine blk_alloc ?_ _)); exact BI100037.out) k_ hn_))⟩)) (below_size (by repeat (first | (with_reducible first | exact HB.out | apply below_alloc | apply pw_below_drewN | apply below_drew1 | refine below_set ?_ GE165.out | refine below_set ?_ GE166.out | refine below_set ?_ GE173.out | refine below_set ?_ GE100032.out | refine below_set ?_ GE100037.out) | exact HB.out)))); have n4_ := Aside0.mk (blk_below (g := gb165) (o := .cells #[.bool a1_0, .bool a1_1, .bool a1_2] 32 (0, 0)) (by (with_reducible repeat (first | refine blk_drewN ?_ _ | refine blk_drew ?_ | refine blk_alloc ?_ _)); exact BK165.out) hb); have n5_ := Aside0.mk (blk_below (g := gb166) (o := .cells #[.slice none 0 0, .slice none 0 0] 72 (0, 0)) (by (with_reducible repeat (first | refine blk_drewN ?_ _ | refine blk_drew ?_ | refine blk_alloc ?_ _)); exact BK166.out) hb); have n6_ := Aside0.mk (blk_below (g := gb173) (o := .cells #[u174000, u174001] 72 (0, 0)) (by (with_reducible repeat (first | refine blk_drewN ?_ _ | refine blk_drew ?_ | refine blk_alloc ?_ _)); exact BK173.out) hb); have n7_ := Aside0.mk (blk_below (g := gb100032) (o := .stringIter (rdOf ByteArray.empty x174000_1 x7_1) ((x100033000_2 + 1) : Int).toNat) (by (with_reducible repeat (first | refine blk_drewN ?_ _ | refine blk_drew ?_ | refine blk_alloc ?_ _)); exact BI100032.out) hb); have n8_ := Aside0.mk (blk_below (g := gb100037) (o := .stringIter (rdOf ByteArray.empty x174000_1 x7_1) ((x100038000_3 + 1) : Int).toNat) (by (with_reducible repeat (first | refine blk_drewN ?_ _ | refine blk_drew ?_ | refine blk_alloc ?_ _)); exact BI100037.out) hb); have n9_ := Aside0.mk (below_step (by repeat (first | (with_reducible first | exact HB.out | apply below_alloc | apply pw_below_drewN | apply below_drew1 | refine below_set ?_ GE165.out | refine below_set ?_ GE166.out | refine below_set ?_ GE173.out | refine below_set ?_ GE100032.out | refine below_set ?_ GE100037.out) | exact HB.out)) hb); clear HO_6; clear HO_174000; clear HO_174001; clear BK165; clear BK166; clear BK173; clear BI100032; clear BI100037; clear HB; have HO_6 := n0_; have HO_174000 := n1_; have HO_174001 := n2_; have HO182 := n3_; have BK165 := n4_; have BK166 := n5_; have BK173 := n6_; have BI100032 := n7_; have BI100037 := n8_; have HB := n9_; clear n0_ n1_ n2_ n3_ n4_ n5_ n6_ n7_ n8_ n9_; (try clear hb); (try clear hb2); (try clear hk); (try clear hi); (try clear ho0); obtain ⟨Ao69, co69, eo69⟩ := Kd.V_slice HO182.out; subst eo69; have hnb70 := NB173_166.out; have hnc70 := NB166_173.out; have hnb71 := NB173_100032.out; have hnc71 := NB100032_173.out; have hnb72 := NB173_100037.out; have hnc72 := NB100037_173.out; have hcz73_0 : w68.cell? ⟨gb173, 0, none⟩ = some (u174000) := (blk_cell BK173.out 0).trans rfl; have hcz73_1 : w68.cell? ⟨gb173, 1, none⟩ = some (u174001) := (blk_cell BK173.out 1).trans rfl; have hfz73_0 := blk_frozen BK173.out 0; have hfz73_1 := blk_frozen BK173.out 1) | ((with_reducible refine gate_builtin (b := .append) (xs := #[.tmp 73, .tmp 75]) rfl ?_); at_builtin; refine Kd.R_append Kd.string (w0 := w) w.heap.size rfl (.tmp 73) (.tmp 75) 22 9 (.string ⟨#[]⟩) 16 rfl Tryd.underlying22 info9 rfl (by decide) (by omega) u174000 x174000_3 t178 [.string t178] (fun _ => True) (fun _ => False) rfl rfl ?aP (fun _ hk => hk.elim) ?aF ?aO ?aB ?aS ?aL ?_; (case aP => exact rfl); (case aB => exact (by repeat (first | (with_reducible first | exact HB.out | apply below_alloc | apply pw_below_drewN | apply below_drew1 | refine below_set ?_ GE165.out | refine below_set ?_ GE166.out | refine below_set ?_ GE173.out | refine below_set ?_ GE100032.out | refine below_set ?_ GE100037.out) | exact HB.out))); (case aF => exact (fun _ _ => trivial)); (case aO => exact (by (with_reducible repeat (first | apply Kd.R_alloc | apply Kd.R_drewN | apply Kd.R_drew)); exact HO_174000.out)); (case aS => exact (below_size (by repeat (first | (with_reducible first | exact HB.out | apply below_alloc | apply pw_below_drewN | apply below_drew1 | refine below_set ?_ GE165.out | refine below_set ?_ GE166.out | refine below_set ?_ GE173.out | refine below_set ?_ GE100032.out | refine below_set ?_ GE100037.out) | exact HB.out)))); (case aL => have := LMc56.out; omega); intro v184 w74 ho hb hg hat; rw [← Ny183.out] at ho; have n0_ := Aside0.mk (Kd.V_afterv (ok := (fun k_ => some k_ ≠ (u174001 : Value).ownBlock ∧ k_ ≠ gb165 ∧ k_ ≠ gb166 ∧ k_ ≠ gb173 ∧ k_ ≠ gb100032 ∧ k_ ≠ gb100037)) (by (with_reducible repeat (first | apply Kd.V_alloc | apply Kd.V_drewN | apply Kd.V_drew)); exact Kd.V_mono HO_6.out (fun _ hk => ⟨⟨hk.2.1, ⟨hk.2.2.1, ⟨hk.2.2.2.1, ⟨hk.2.2.2.2.1, ⟨hk.2.2.2.2.2.1, hk.2.2.2.2.2.2⟩⟩⟩⟩⟩, hk.1⟩)) hg hat); have n1_ := Aside0.mk (Kd.R_over' (by (with_reducible repeat (first | apply Kd.R_alloc | apply Kd.R_drewN | apply Kd.R_drew)); exact HO_174001.out) (Kd.R_typed (by (with_reducible repeat (first | apply Kd.R_alloc | apply Kd.R_drewN | apply Kd.R_drew)); exact HO_174000.out)) (by decide) hg); have n2_ := Aside0.mk (blk_grown (g := gb165) (o := .cells #[.bool a1_0, .bool a1_1, .bool a1_2] 32 (0, 0)) (by (with_reducible repeat (first | refine blk_drewN ?_ _ | refine blk_drew ?_ | refine blk_alloc ?_ _)); exact BK165.out) hg (Kd.R_ne HO_174000.out BK165.out (by decide))); have n3_ := Aside0.mk (blk_grown (g := gb166) (o := .cells #[.slice none 0 0, .slice none 0 0] 72 (0, 0)) (by (with_reducible repeat (first | refine blk_drewN ?_ _ | refine blk_drew ?_ | refine blk_alloc ?_ _)); exact BK166.out) hg (Kd.R_ne HO_174000.out BK166.out (by decide))); have n4_ := Aside0.mk (blk_grown (g := gb173) (o := .cells #[u174000, u174001] 72 (0, 0)) (by (with_reducible repeat (first | refine blk_drewN ?_ _ | refine blk_drew ?_ | refine blk_alloc ?_ _)); exact BK173.out) hg (Kd.R_ne HO_174000.out BK173.out (by decide))); have n5_ := Aside0.mk (blk_grown (g := gb100032) (o := .stringIter (rdOf ByteArray.empty x174000_1 x7_1) ((x100033000_2 + 1) : Int).toNat) (by (with_reducible repeat (first | refine blk_drewN ?_ _ | refine blk_drew ?_ | refine blk_alloc ?_ _)); exact BI100032.out) hg (Go.Proofs.YtjgijaocinpkhaaDoorXW.R_neI HO_174000.out BI100032.out)); have n6_ := Aside0.mk (blk_grown (g := gb100037) (o := .stringIter (rdOf ByteArray.empty x174000_1 x7_1) ((x100038000_3 + 1) : Int).toNat) (by (with_reducible repeat (first | refine blk_drewN ?_ _ | refine blk_drew ?_ | refine blk_alloc ?_ _)); exact BI100037.out) hg (Go.Proofs.YtjgijaocinpkhaaDoorXW.R_neI HO_174000.out BI100037.out)); have n7_ := Aside0.mk (Kd.V_afterv (ok := (fun k_ => some k_ ≠ (u174001 : Value).ownBlock ∧ k_ ≠ gb165 ∧ k_ ≠ gb166 ∧ k_ ≠ gb173 ∧ k_ ≠ gb100032 ∧ k_ ≠ gb100037)) (by (with_reducible repeat (first | apply Kd.V_alloc | apply Kd.V_drewN | apply Kd.V_drew)); exact Kd.V_mono HO182.out (fun _ hk => ⟨⟨hk.2.1, ⟨hk.2.2.1, ⟨hk.2.2.2.1, ⟨hk.2.2.2.2.1, ⟨hk.2.2.2.2.2.1, hk.2.2.2.2.2.2⟩⟩⟩⟩⟩, hk.1⟩)) hg hat); have n8_ := Aside0.mk (hb); have n9_ := Aside0.mk (ho); clear HO_6; clear HO_174001; clear BK165; clear BK166; clear BK173; clear BI100032; clear BI100037; clear HO182; clear HB; clear HO_174000; have HO_6 := n0_; have HO_174001 := n1_; have BK165 := n2_; have BK166 := n3_; have BK173 := n4_; have BI100032 := n5_; have BI100037 := n6_; have HO182 := n7_; have HB := n8_; have HO185 := n9_; clear n0_ n1_ n2_ n3_ n4_ n5_ n6_ n7_ n8_ n9_; clear ho hb hg hat; obtain ⟨Ao75, co75, eo75⟩ := Kd.R_slice HO185.out; subst eo75; have hcz76_0 : w74.cell? ⟨gb173, 0, none⟩ = some (u174000) := (blk_cell BK173.out 0).trans rfl; have hcz76_1 : w74.cell? ⟨gb173, 1, none⟩ = some (u174001) := (blk_cell BK173.out 1).trans rfl; have hfz76_0 := blk_frozen BK173.out 0; have hfz76_1 := blk_frozen BK173.out 1))
                                                have n0_ : Aside0 (Kd.V Kd.string 9 (w74.setCell ⟨gb173, 0, none⟩ (.slice Ao75 y183.length co75)) w.heap.size (fun k_ => some k_ ≠ (u174001 : Value).ownBlock ∧ some k_ ≠ (.slice Ao75 y183.length co75 : Value).ownBlock ∧ k_ ≠ gb165 ∧ k_ ≠ gb166 ∧ k_ ≠ gb173 ∧ k_ ≠ gb100032 ∧ k_ ≠ gb100037) (.slice Ao67 x6_3.length co67) x6_3) := ⟨by (with_reducible repeat (first | apply Kd.V_alloc | apply Kd.V_drewN | apply Kd.V_drew)); exact Kd.V_mono (Kd.V_far (p := ⟨gb173, 0, none⟩) (Kd.V_mono HO_6.out (fun k_ hk => (⟨hk, hk.1.2.2.2.1⟩ : _ ∧ k_ ≠ gb173))) (fun _ hk => hk.2) (.slice Ao75 y183.length co75)) (fun _ hk => ⟨hk.1.1.1, ⟨hk.1.2, ⟨hk.1.1.2.1, ⟨hk.1.1.2.2.1, ⟨hk.1.1.2.2.2.1, ⟨hk.1.1.2.2.2.2.1, hk.1.1.2.2.2.2.2⟩⟩⟩⟩⟩⟩)⟩
                                                have n1_ : Aside0 (Kd.R (Kd.int .i64) 3 (w74.setCell ⟨gb173, 0, none⟩ (.slice Ao75 y183.length co75)) w.heap.size (fun _ => True) u174001 x174001_3) := ⟨by (with_reducible repeat (first | apply Kd.R_alloc | apply Kd.R_drewN | apply Kd.R_drew)); exact Kd.R_mono (Kd.R_far (p := ⟨gb173, 0, none⟩) (Kd.R_types HO_174001.out BK173.out (by decide)) (fun _ hk => hk.2) (.slice Ao75 y183.length co75)) (fun _ hk => trivial)⟩
                                                have n2_ : Aside0 (Kd.V Kd.string 9 (w74.setCell ⟨gb173, 0, none⟩ (.slice Ao75 y183.length co75)) w.heap.size (fun k_ => some k_ ≠ (u174001 : Value).ownBlock ∧ some k_ ≠ (.slice Ao75 y183.length co75 : Value).ownBlock ∧ k_ ≠ gb165 ∧ k_ ≠ gb166 ∧ k_ ≠ gb173 ∧ k_ ≠ gb100032 ∧ k_ ≠ gb100037) (.slice Ao69 t180.length co69) t180) := ⟨by (with_reducible repeat (first | apply Kd.V_alloc | apply Kd.V_drewN | apply Kd.V_drew)); exact Kd.V_mono (Kd.V_far (p := ⟨gb173, 0, none⟩) (Kd.V_mono HO182.out (fun k_ hk => (⟨hk, hk.1.2.2.2.1⟩ : _ ∧ k_ ≠ gb173))) (fun _ hk => hk.2) (.slice Ao75 y183.length co75)) (fun _ hk => ⟨hk.1.1.1, ⟨hk.1.2, ⟨hk.1.1.2.1, ⟨hk.1.1.2.2.1, ⟨hk.1.1.2.2.2.1, ⟨hk.1.1.2.2.2.2.1, hk.1.1.2.2.2.2.2⟩⟩⟩⟩⟩⟩)⟩
                                                have n3_ : Aside0 (Kd.R Kd.string 9 (w74.setCell ⟨gb173, 0, none⟩ (.slice Ao75 y183.length co75)) w.heap.size (fun _ => True) (.slice Ao75 y183.length co75) y183) := ⟨by (with_reducible repeat (first | apply Kd.R_alloc | apply Kd.R_drewN | apply Kd.R_drew)); exact Kd.R_mono (Kd.R_far (p := ⟨gb173, 0, none⟩) (Kd.R_types HO185.out BK173.out (by decide)) (fun _ hk => hk.2) (.slice Ao75 y183.length co75)) (fun _ hk => trivial)⟩
                                                have n4_ : Aside0 ((w74.setCell ⟨gb173, 0, none⟩ (.slice Ao75 y183.length co75)).heap[gb165]? = some (.cells #[.bool a1_0, .bool a1_1, .bool a1_2] 32 (0, 0))) := ⟨by (with_reducible repeat (first | refine blk_drewN ?_ _ | refine blk_drew ?_ | refine blk_alloc ?_ _)); refine blk_far ?_ NB165_173.out _; (with_reducible repeat (first | refine blk_drewN ?_ _ | refine blk_drew ?_ | refine blk_alloc ?_ _)); exact BK165.out⟩
                                                have n5_ : Aside0 ((w74.setCell ⟨gb173, 0, none⟩ (.slice Ao75 y183.length co75)).heap[gb166]? = some (.cells #[.slice none 0 0, .slice none 0 0] 72 (0, 0))) := ⟨by (with_reducible repeat (first | refine blk_drewN ?_ _ | refine blk_drew ?_ | refine blk_alloc ?_ _)); refine blk_far ?_ NB166_173.out _; (with_reducible repeat (first | refine blk_drewN ?_ _ | refine blk_drew ?_ | refine blk_alloc ?_ _)); exact BK166.out⟩
                                                have n6_ : Aside0 ((w74.setCell ⟨gb173, 0, none⟩ (.slice Ao75 y183.length co75)).heap[gb173]? = some (.cells #[.slice Ao75 y183.length co75, u174001] 72 (0, 0))) := ⟨by (with_reducible repeat (first | refine blk_drewN ?_ _ | refine blk_drew ?_ | refine blk_alloc ?_ _)); refine blk_put (cs := #[u174000, u174001]) ?_ 0 _ rfl; (with_reducible repeat (first | refine blk_drewN ?_ _ | refine blk_drew ?_ | refine blk_alloc ?_ _)); exact BK173.out⟩
                                                have n7_ : Aside0 ((w74.setCell ⟨gb173, 0, none⟩ (.slice Ao75 y183.length co75)).heap[gb100032]? = some (.stringIter (rdOf ByteArray.empty x174000_1 x7_1) ((x100033000_2 + 1) : Int).toNat)) := ⟨by (with_reducible repeat (first | refine blk_drewN ?_ _ | refine blk_drew ?_ | refine blk_alloc ?_ _)); refine Go.Proofs.YtjgijaocinpkhaaDoorXW.blk_farO ?_ NB100032_173.out _; (with_reducible repeat (first | refine blk_drewN ?_ _ | refine blk_drew ?_ | refine blk_alloc ?_ _)); exact BI100032.out⟩
                                                have n8_ : Aside0 ((w74.setCell ⟨gb173, 0, none⟩ (.slice Ao75 y183.length co75)).heap[gb100037]? = some (.stringIter (rdOf ByteArray.empty x174000_1 x7_1) ((x100038000_3 + 1) : Int).toNat)) := ⟨by (with_reducible repeat (first | refine blk_drewN ?_ _ | refine blk_drew ?_ | refine blk_alloc ?_ _)); refine Go.Proofs.YtjgijaocinpkhaaDoorXW.blk_farO ?_ NB100037_173.out _; (with_reducible repeat (first | refine blk_drewN ?_ _ | refine blk_drew ?_ | refine blk_alloc ?_ _)); exact BI100037.out⟩
                                                have n9_ : Aside0 (Below w.heap.size w (w74.setCell ⟨gb173, 0, none⟩ (.slice Ao75 y183.length co75))) := ⟨by repeat (first | (with_reducible first | exact HB.out | apply below_alloc | apply pw_below_drewN | apply below_drew1 | refine below_set ?_ GE165.out | refine below_set ?_ GE166.out | refine below_set ?_ GE173.out | refine below_set ?_ GE100032.out | refine below_set ?_ GE100037.out) | exact HB.out)⟩
                                                (try clear HO_6)
                                                (try clear HO_174001)
                                                (try clear HO182)
                                                (try clear HO185)
                                                (try clear BK165)
                                                (try clear BK166)
                                                (try clear BK173)
                                                (try clear BI100032)
                                                (try clear BI100037)
                                                (try clear HB)
                                                generalize (w74.setCell ⟨gb173, 0, none⟩ (.slice Ao75 y183.length co75)) = w77 at n0_ n1_ n2_ n3_ n4_ n5_ n6_ n7_ n8_ n9_ ⊢
                                                have HO_6 := n0_
                                                have HO_174001 := n1_
                                                have HO182 := n2_
                                                have HO185 := n3_
                                                have BK165 := n4_
                                                have BK166 := n5_
                                                have BK173 := n6_
                                                have BI100032 := n7_
                                                have BI100037 := n8_
                                                have HB := n9_
                                                clear n0_ n1_ n2_ n3_ n4_ n5_ n6_ n7_ n8_ n9_
                                                have n0_ := Aside0.mk (Kd.V_drew HO_6.out)
                                                have n1_ := Aside0.mk (Kd.R_drew HO_174001.out)
                                                have n2_ := Aside0.mk (Kd.V_drew HO182.out)
                                                have n3_ := Aside0.mk (Kd.R_drew HO185.out)
                                                have n4_ := Aside0.mk (blk_drew BK165.out)
                                                have n5_ := Aside0.mk (blk_drew BK166.out)
                                                have n6_ := Aside0.mk (blk_drew BK173.out)
                                                have n7_ := Aside0.mk (blk_drew BI100032.out)
                                                have n8_ := Aside0.mk (blk_drew BI100037.out)
                                                have n9_ := Aside0.mk (below_drew1 HB.out)
                                                clear HO_6
                                                clear HO_174001
                                                clear HO182
                                                clear HO185
                                                clear BK165
                                                clear BK166
                                                clear BK173
                                                clear BI100032
                                                clear BI100037
                                                clear HB
                                                have HO_6 := n0_
                                                have HO_174001 := n1_
                                                have HO182 := n2_
                                                have HO185 := n3_
                                                have BK165 := n4_
                                                have BK166 := n5_
                                                have BK173 := n6_
                                                have BI100032 := n7_
                                                have BI100037 := n8_
                                                have HB := n9_
                                                clear n0_ n1_ n2_ n3_ n4_ n5_ n6_ n7_ n8_ n9_
                                                obtain ⟨Ao79, co79, eo79⟩ := Kd.R_slice HO_174001.out
                                                (first | subst eo79 | (injection eo79 with f1_ f2_ f3_; have f4_ := f1_.symm; have f5_ := f3_.symm; clear f1_ f2_ f3_; subst f4_; subst f5_))
                                                have p186 : 0 ≤ (x7_1 : Int) := of_decide_eq_true (by first | (with_reducible assumption) | assumption)
                                                have q186 : x7_1 < (x174001_3.length : Int) := of_decide_eq_true (by first | (with_reducible assumption) | assumption)
                                                obtain ⟨ad186, e186, hx186_0⟩ := Kd.at_int (Kd.R_reads' HO_174001.out).2.2 x7_1 p186 q186
                                                cases e186
                                                replace p186 := eq_true p186
                                                replace q186 := eq_true q186
                                                refine start_ (n := 12) (S := fun w' => w'.cell? ⟨gb173, 0, none⟩ = some (.slice Ao75 y183.length co75) ∧ w'.cell? ⟨gb173, 1, none⟩ = some (.slice (some ad186) x174001_3.length co79) ∧ w'.cell? (ad186.add (x7_1).toNat) = some (.int .i64 (rd x174001_3 x7_1))) (ds := [9, 11]) #[false, false, false, false, false, false, false, false, false, false, false, false] (by kernel_rfl) rfl rfl ⟨(blk_cell BK173.out 0).trans rfl, (blk_cell BK173.out 1).trans rfl, hx186_0⟩ (fun hHeld => ?_); refine with_tabW spec_ruBack.tab20 spec_ruBack.bits20 (fun HT_ HW_ => ?_)
                                                generalize w77.drew = w78 at HO_6 HO_174001 HO182 HO185 BK165 BK166 BK173 BI100032 BI100037 HB hx186_0 hHeld ⊢
                                                refine pure_ (i := 0) (N := some 78) (v := ?_) (a' := ?_) #[true, false, false, false, false, false, false, false, false, false, false, false] rfl rfl (any_of HT_.out (by kernel_rfl)) (fun _ _ _ h => h) (Or.inl ⟨by rfl, ?_⟩) ?_ ?_
                                                rotate_left
                                                · intro w'
                                                  go_simp
                                                  with_reducible rfl
                                                rotate_left
                                                · simp only [Act.put, List.setIfInBounds_toArray, List.set_cons_zero, List.set_cons_succ, i64_w, i32_w]
                                                  rfl
                                                refine pure_ (i := 2) (N := some 80) (v := ?_) (a' := ?_) #[true, false, true, false, false, false, false, false, false, false, false, false] rfl rfl (any_of HT_.out (by kernel_rfl)) (fun _ _ _ h => h) (Or.inl ⟨by rfl, ?_⟩) ?_ ?_
                                                rotate_left
                                                · intro w'
                                                  go_simp
                                                  with_reducible rfl
                                                rotate_left
                                                · simp only [Act.put, List.setIfInBounds_toArray, List.set_cons_zero, List.set_cons_succ, i64_w, i32_w]
                                                  rfl
                                                refine pure_ (i := 4) (N := some 82) (v := ?_) (a' := ?_) #[true, false, true, false, true, false, false, false, false, false, false, false] rfl rfl (any_of HT_.out (by kernel_rfl)) (fun _ _ _ h => h) (Or.inl ⟨by rfl, ?_⟩) ?_ ?_
                                                rotate_left
                                                · intro w'
                                                  go_simp
                                                  with_reducible rfl
                                                rotate_left
                                                · simp only [Act.put, List.setIfInBounds_toArray, List.set_cons_zero, List.set_cons_succ, i64_w, i32_w]
                                                  rfl
                                                refine take_ (i := 1) (N := some 79) (v := ?_) (a' := ?_) #[true, true, true, false, true, false, false, false, false, false, false, false] rfl rfl (take_ofW HT_.out HW_.out (by kernel_rfl)) (fun _ _ _ h => h) (Or.inl ⟨by rfl, ?_⟩) hHeld ?_ ?_
                                                rotate_left
                                                · rintro w' ⟨s0, s1, s2⟩
                                                  go_simp
                                                  with_reducible rfl
                                                rotate_left
                                                · simp only [Act.put, List.setIfInBounds_toArray, List.set_cons_zero, List.set_cons_succ, i64_w, i32_w]
                                                  rfl
                                                refine take_ (i := 3) (N := some 81) (v := ?_) (a' := ?_) #[true, true, true, true, true, false, false, false, false, false, false, false] rfl rfl (take_ofW HT_.out HW_.out (by kernel_rfl)) (fun _ _ _ h => h) (Or.inl ⟨by rfl, ?_⟩) hHeld ?_ ?_
                                                rotate_left
                                                · rintro w' ⟨s0, s1, s2⟩
                                                  go_simp
                                                  with_reducible rfl
                                                rotate_left
                                                · simp only [Act.put, List.setIfInBounds_toArray, List.set_cons_zero, List.set_cons_succ, i64_w, i32_w]
                                                  rfl
                                                refine pure_ (i := 5) (N := some 83) (v := ?_) (a' := ?_) #[true, true, true, true, true, true, false, false, false, false, false, false] rfl rfl (any_of HT_.out (by kernel_rfl)) (fun _ _ _ h => h) (Or.inl ⟨by rfl, ?_⟩) ?_ ?_
                                                rotate_left
                                                · intro w'
                                                  go_simp
                                                  with_reducible rfl
                                                rotate_left
                                                · simp only [Act.put, List.setIfInBounds_toArray, List.set_cons_zero, List.set_cons_succ, i64_w, i32_w]
                                                  rfl
                                                refine take_ (i := 6) (N := some 84) (v := ?_) (a' := ?_) #[true, true, true, true, true, true, true, false, false, false, false, false] rfl rfl (take_ofW HT_.out HW_.out (by kernel_rfl)) (fun _ _ _ h => h) (Or.inl ⟨by rfl, ?_⟩) hHeld ?_ ?_
                                                rotate_left
                                                · rintro w' ⟨s0, s1, s2⟩
                                                  go_simp
                                                  with_reducible rfl
                                                rotate_left
                                                · simp only [Act.put, List.setIfInBounds_toArray, List.set_cons_zero, List.set_cons_succ, i64_w, i32_w]
                                                  rfl
                                                refine pure_ (i := 7) (N := some 85) (v := ?_) (a' := ?_) #[true, true, true, true, true, true, true, true, false, false, false, false] rfl rfl (any_of HT_.out (by kernel_rfl)) (fun _ _ _ h => h) (Or.inl ⟨by rfl, ?_⟩) ?_ ?_
                                                rotate_left
                                                · intro w'
                                                  go_simp
                                                  with_reducible rfl
                                                rotate_left
                                                · simp only [Act.put, List.setIfInBounds_toArray, List.set_cons_zero, List.set_cons_succ, i64_w, i32_w]
                                                  rfl
                                                refine one_ (i := 8) (N := some 86) #[true, true, true, true, true, true, true, true, true, false, false, false] rfl rfl (one_of HT_.out (by kernel_rfl)) (by decide) (fun K hK => ?_)
                                                refine value_ (w1 := ?_) (v := ?_) (by rfl) rfl ?_ ?_
                                                rotate_left 2
                                                · go_simp
                                                  constructor
                                                  · rfl
                                                  · rfl
                                                refine hK.out _ _ ⟨(blk_cell (blk_alloc BK173.out _) 0).trans rfl, (blk_cell (blk_alloc BK173.out _) 1).trans rfl, (World.cell?_alloc_lt _ _ _ (World.block_lt_of_cell? _ _ (hHeld.2.2))).trans (hHeld.2.2)⟩ (fun hHeld => ?_)
                                                clear hK K
                                                refine norm_ (a' := ?_) ?_ ?_
                                                rotate_left
                                                · show Act.put _ (some 86) _ = _
                                                  simp only [Act.put, List.setIfInBounds_toArray, List.set_cons_zero, List.set_cons_succ, i64_w, i32_w]
                                                  rfl
                                                refine last_ (i := 9) (N := some 87) #[true, true, true, true, true, true, true, true, true, true, false, false] rfl rfl (one_of HT_.out (by kernel_rfl)) (by decide) (fun K hK => ?_)
                                                refine Kd.R_append_step (Kd.int .i64) (w0 := w) w.heap.size (by rfl) (.tmp 79) (.tmp 86) 65 3 (.int .i64 0) 8 rfl Tryd.underlying65 info3 rfl (by decide) (by omega) (.slice (some ad186) x174001_3.length co79) x174001_3 (wrap64 ((rd x174001_3 x7_1) + 1)) [.int .i64 (wrap64 ((rd x174001_3 x7_1) + 1))] (fun _ => True) (fun _ => False) rfl rfl ?aP (fun _ hk => hk.elim) ?aF ?aO ?aB ?aS ?aL ?_
                                                (case aP => exact rfl)
                                                (case aB => exact (by repeat (first | (with_reducible first | exact HB.out | apply below_alloc | apply pw_below_drewN | apply below_drew1 | refine below_set ?_ GE165.out | refine below_set ?_ GE166.out | refine below_set ?_ GE173.out | refine below_set ?_ GE100032.out | refine below_set ?_ GE100037.out) | exact HB.out)))
                                                (case aF => exact (fun _ _ => trivial))
                                                (case aO => exact (by (with_reducible repeat (first | apply Kd.R_alloc | apply Kd.R_drewN | apply Kd.R_drew)); exact HO_174001.out))
                                                (case aS => exact (below_size (by repeat (first | (with_reducible first | exact HB.out | apply below_alloc | apply pw_below_drewN | apply below_drew1 | refine below_set ?_ GE165.out | refine below_set ?_ GE166.out | refine below_set ?_ GE173.out | refine below_set ?_ GE100032.out | refine below_set ?_ GE100037.out) | exact HB.out))))
                                                (case aL => have := LMc59.out; omega)
                                                intro v188 w80 ho hb hg hat
                                                rw [← Ny187.out] at ho
                                                have n0_ := Aside0.mk (Kd.V_afterv (ok := (fun k_ => some k_ ≠ (.slice Ao75 y183.length co75 : Value).ownBlock ∧ k_ ≠ gb165 ∧ k_ ≠ gb166 ∧ k_ ≠ gb173 ∧ k_ ≠ gb100032 ∧ k_ ≠ gb100037)) (by (with_reducible repeat (first | apply Kd.V_alloc | apply Kd.V_drewN | apply Kd.V_drew)); exact Kd.V_mono HO_6.out (fun _ hk => ⟨⟨hk.2.1, ⟨hk.2.2.1, ⟨hk.2.2.2.1, ⟨hk.2.2.2.2.1, ⟨hk.2.2.2.2.2.1, hk.2.2.2.2.2.2⟩⟩⟩⟩⟩, hk.1⟩)) hg hat)
                                                have n1_ := Aside0.mk (blk_grown (g := gb165) (o := .cells #[.bool a1_0, .bool a1_1, .bool a1_2] 32 (0, 0)) (by (with_reducible repeat (first | refine blk_drewN ?_ _ | refine blk_drew ?_ | refine blk_alloc ?_ _)); exact BK165.out) hg (Kd.R_ne HO_174001.out BK165.out (by decide)))
                                                have n2_ := Aside0.mk (blk_grown (g := gb166) (o := .cells #[.slice none 0 0, .slice none 0 0] 72 (0, 0)) (by (with_reducible repeat (first | refine blk_drewN ?_ _ | refine blk_drew ?_ | refine blk_alloc ?_ _)); exact BK166.out) hg (Kd.R_ne HO_174001.out BK166.out (by decide)))
                                                have n3_ := Aside0.mk (blk_grown (g := gb173) (o := .cells #[.slice Ao75 y183.length co75, .slice (some ad186) x174001_3.length co79] 72 (0, 0)) (by (with_reducible repeat (first | refine blk_drewN ?_ _ | refine blk_drew ?_ | refine blk_alloc ?_ _)); exact BK173.out) hg (Kd.R_ne HO_174001.out BK173.out (by decide)))
                                                have n4_ := Aside0.mk (blk_grown (g := gb100032) (o := .stringIter (rdOf ByteArray.empty x174000_1 x7_1) ((x100033000_2 + 1) : Int).toNat) (by (with_reducible repeat (first | refine blk_drewN ?_ _ | refine blk_drew ?_ | refine blk_alloc ?_ _)); exact BI100032.out) hg (Go.Proofs.YtjgijaocinpkhaaDoorXW.R_neI HO_174001.out BI100032.out))
                                                have n5_ := Aside0.mk (blk_grown (g := gb100037) (o := .stringIter (rdOf ByteArray.empty x174000_1 x7_1) ((x100038000_3 + 1) : Int).toNat) (by (with_reducible repeat (first | refine blk_drewN ?_ _ | refine blk_drew ?_ | refine blk_alloc ?_ _)); exact BI100037.out) hg (Go.Proofs.YtjgijaocinpkhaaDoorXW.R_neI HO_174001.out BI100037.out))
                                                have n6_ := Aside0.mk (Kd.V_afterv (ok := (fun k_ => some k_ ≠ (.slice Ao75 y183.length co75 : Value).ownBlock ∧ k_ ≠ gb165 ∧ k_ ≠ gb166 ∧ k_ ≠ gb173 ∧ k_ ≠ gb100032 ∧ k_ ≠ gb100037)) (by (with_reducible repeat (first | apply Kd.V_alloc | apply Kd.V_drewN | apply Kd.V_drew)); exact Kd.V_mono HO182.out (fun _ hk => ⟨⟨hk.2.1, ⟨hk.2.2.1, ⟨hk.2.2.2.1, ⟨hk.2.2.2.2.1, ⟨hk.2.2.2.2.2.1, hk.2.2.2.2.2.2⟩⟩⟩⟩⟩, hk.1⟩)) hg hat)
                                                have n7_ := Aside0.mk (Kd.R_over' (by (with_reducible repeat (first | apply Kd.R_alloc | apply Kd.R_drewN | apply Kd.R_drew)); exact HO185.out) (Kd.R_typed (by (with_reducible repeat (first | apply Kd.R_alloc | apply Kd.R_drewN | apply Kd.R_drew)); exact HO_174001.out)) (by decide) hg)
                                                have n8_ := Aside0.mk (hb)
                                                have n9_ := Aside0.mk (ho)
                                                clear HO_6
                                                clear BK165
                                                clear BK166
                                                clear BK173
                                                clear BI100032
                                                clear BI100037
                                                clear HO182
                                                clear HO185
                                                clear HB
                                                clear HO_174001
                                                have HO_6 := n0_
                                                have BK165 := n1_
                                                have BK166 := n2_
                                                have BK173 := n3_
                                                have BI100032 := n4_
                                                have BI100037 := n5_
                                                have HO182 := n6_
                                                have HO185 := n7_
                                                have HB := n8_
                                                have HO189 := n9_
                                                clear n0_ n1_ n2_ n3_ n4_ n5_ n6_ n7_ n8_ n9_
                                                clear ho hb hg hat
                                                obtain ⟨Ao81, co81, eo81⟩ := Kd.R_slice HO189.out
                                                (first | subst eo81 | (injection eo81 with f1_ f2_ f3_; have f4_ := f1_.symm; have f5_ := f3_.symm; clear f1_ f2_ f3_; subst f4_; subst f5_))
                                                refine hK.out _ _ ?_
                                                clear hK K
                                                refine norm_ (a' := ?_) ?_ ?_
                                                rotate_left
                                                · show Act.put _ (some 87) _ = _
                                                  simp only [Act.put, List.setIfInBounds_toArray, List.set_cons_zero, List.set_cons_succ, i64_w, i32_w]
                                                  rfl
                                                refine pure_ (i := 10) (N := some 88) (v := ?_) (a' := ?_) #[true, true, true, true, true, true, true, true, true, true, true, false] rfl rfl (any_of HT_.out (by kernel_rfl)) (fun _ _ _ h => h) (Or.inl ⟨by rfl, ?_⟩) ?_ ?_
                                                rotate_left
                                                · intro w'
                                                  go_simp
                                                  with_reducible rfl
                                                rotate_left
                                                · simp only [Act.put, List.setIfInBounds_toArray, List.set_cons_zero, List.set_cons_succ, i64_w, i32_w]
                                                  rfl
                                                refine last_ (i := 11) (N := none) #[true, true, true, true, true, true, true, true, true, true, true, true] rfl rfl (one_of HT_.out (by kernel_rfl)) (by decide) (fun K hK => ?_)
                                                have hs82 : w80.cell? ⟨gb173, 1, none⟩ = some (.slice (some ad186) x174001_3.length co79) := (blk_cell BK173.out 1).trans rfl
                                                have hfs82 := blk_frozen BK173.out 1
                                                have hns82_0 := NB165_173.out
                                                have hns82_1 := NB166_173.out
                                                have hns82_3 := NB100032_173.out
                                                have hns82_4 := NB100037_173.out
                                                have hms82_0 := NB173_165.out
                                                have hms82_1 := NB173_166.out
                                                have hms82_3 := NB173_100032.out
                                                have hms82_4 := NB173_100037.out
                                                refine skip_ (w1 := ?_) (by rfl) rfl ?_ ?_
                                                rotate_left
                                                · go_simp
                                                  rfl
                                                refine hK.out _ _ ?_
                                                clear hK K
                                                refine done_ (done_of HT_.out (by kernel_rfl)) ?_
                                                try go_wp2
                                                go_roundg kj31
                                                case measure => have := HK1.out; have := HK2.out; have := HK3.out; have := HJ31.out; omega
                                                case rel => exact ⟨(t180), (y183), (y187), ((x100038000_3 + 1)), (.slice Ao75 y183.length co75), (.slice Ao81 y187.length co81), H', ⟨by have := HK1.out; have := HK2.out; have := HK3.out; have := HJ31.out; omega⟩, ⟨by (with_reducible repeat (first | apply Kd.V_alloc | apply Kd.V_drewN | apply Kd.V_drew)); exact Kd.V_mono (Kd.V_far (p := ⟨gb173, 1, none⟩) (Kd.V_mono HO182.out (fun k_ hk => (⟨hk, hk.1.2.2.2.1⟩ : _ ∧ k_ ≠ gb173))) (fun _ hk => hk.2) (.slice Ao81 y187.length co81)) (fun _ hk => ⟨hk.1.1.1, ⟨hk.1.2, ⟨hk.1.1.2.1, ⟨hk.1.1.2.2.1, ⟨hk.1.1.2.2.2.1, ⟨hk.1.1.2.2.2.2.1, hk.1.1.2.2.2.2.2⟩⟩⟩⟩⟩⟩)⟩, ⟨by (with_reducible repeat (first | apply Kd.R_alloc | apply Kd.R_drewN | apply Kd.R_drew)); exact Kd.R_mono (Kd.R_far (p := ⟨gb173, 1, none⟩) (Kd.R_types HO185.out BK173.out (by decide)) (fun _ hk => hk.2) (.slice Ao81 y187.length co81)) (fun _ hk => trivial)⟩, ⟨by (with_reducible repeat (first | apply Kd.R_alloc | apply Kd.R_drewN | apply Kd.R_drew)); exact Kd.R_mono (Kd.R_far (p := ⟨gb173, 1, none⟩) (Kd.R_types HO189.out BK173.out (by decide)) (fun _ hk => hk.2) (.slice Ao81 y187.length co81)) (fun _ hk => trivial)⟩, ⟨by (with_reducible repeat (first | refine blk_drewN ?_ _ | refine blk_drew ?_ | refine blk_alloc ?_ _)); refine blk_far ?_ NB165_173.out _; (with_reducible repeat (first | refine blk_drewN ?_ _ | refine blk_drew ?_ | refine blk_alloc ?_ _)); exact BK165.out⟩, ⟨by (with_reducible repeat (first | refine blk_drewN ?_ _ | refine blk_drew ?_ | refine blk_alloc ?_ _)); refine blk_far ?_ NB166_173.out _; (with_reducible repeat (first | refine blk_drewN ?_ _ | refine blk_drew ?_ | refine blk_alloc ?_ _)); exact BK166.out⟩, ⟨by (with_reducible repeat (first | refine blk_drewN ?_ _ | refine blk_drew ?_ | refine blk_alloc ?_ _)); refine blk_put (cs := #[.slice Ao75 y183.length co75, .slice (some ad186) x174001_3.length co79]) ?_ 1 _ rfl; (with_reducible repeat (first | refine blk_drewN ?_ _ | refine blk_drew ?_ | refine blk_alloc ?_ _)); exact BK173.out⟩, ⟨by (with_reducible repeat (first | refine blk_drewN ?_ _ | refine blk_drew ?_ | refine blk_alloc ?_ _)); refine Go.Proofs.YtjgijaocinpkhaaDoorXW.blk_farO ?_ NB100032_173.out _; (with_reducible repeat (first | refine blk_drewN ?_ _ | refine blk_drew ?_ | refine blk_alloc ?_ _)); exact BI100032.out⟩, ⟨by (with_reducible repeat (first | refine blk_drewN ?_ _ | refine blk_drew ?_ | refine blk_alloc ?_ _)); refine Go.Proofs.YtjgijaocinpkhaaDoorXW.blk_farO ?_ NB100037_173.out _; (with_reducible repeat (first | refine blk_drewN ?_ _ | refine blk_drew ?_ | refine blk_alloc ?_ _)); exact BI100037.out⟩, ⟨by repeat (first | (with_reducible first | exact HB.out | apply below_alloc | apply pw_below_drewN | apply below_drew1 | refine below_set ?_ GE165.out | refine below_set ?_ GE166.out | refine below_set ?_ GE173.out | refine below_set ?_ GE100032.out | refine below_set ?_ GE100037.out) | exact HB.out)⟩⟩
                                              · rw [if_neg c59] at H
                                                exact absurd H (by simp)
                                            · rw [if_neg c58] at H
                                              exact absurd H (by simp)
                                          · rw [if_neg c57] at H
                                            exact absurd H (by simp)
                                        · rw [if_neg c56] at H
                                          exact absurd H (by simp)
                                    · replace c43 := Bool.eq_false_iff.mpr c43
                                      subst c43
                                      have H1 : (spec_ruBack.l2 kj31 x6_3 x7_1 (rdOf ByteArray.empty x174000_1 x7_1) x100033000_2 a1_0 a1_1 a1_2 x174000_3 x174001_3 (x100033000_2 + 1) (rdOf ByteArray.empty x174000_1 x7_1) (x100038000_3 + 1) (rdOf ByteArray.empty x174000_1 x7_1)) = some (r1, r2) := by rw [if_neg (show ¬ (false = true) by decide)] at H; exact H
                                      clear H
                                      have H := H1
                                      clear H1
                                      have H' := Aside0.mk H
                                      clear H
                                      go_wp2_with (first | ((with_reducible refine gate_callee (f := 74) rfl ?_); refine goesL_ (some 55) rfl rfl Tryd.func74 (by kernel_rfl) rfl #[.string (rdOf ByteArray.empty x174000_1 x7_1), .agg #[.int .i64 x100033000_2, .int .i64 x100038000_3]] rfl (by (try simp only [List.map_toArray, List.map_cons, List.map_nil]); first | done | rfl | (simp only [List.length_drop, List.length_take]; rfl)) ?_; (with_reducible refine (spec_liMake.calls (rdOf ByteArray.empty x174000_1 x7_1) x100033000_2 x100038000_3 t178 _ A41.out).mono ?_); rintro e w83 ⟨rfl, hb⟩; refine ⟨_, rfl, ?_⟩; have n0_ := Aside0.mk (Kd.V_below (by (with_reducible repeat (first | apply Kd.V_alloc | apply Kd.V_drewN | apply Kd.V_drew)); exact HO_6.out) hb); have n1_ := Aside0.mk (Kd.R_below (by (with_reducible repeat (first | apply Kd.R_alloc | apply Kd.R_drewN | apply Kd.R_drew)); exact HO_174000.out) hb); have n2_ := Aside0.mk (Kd.R_below (by (with_reducible repeat (first | apply Kd.R_alloc | apply Kd.R_drewN | apply Kd.R_drew)); exact HO_174001.out) hb); have n3_ := Aside0.mk (blk_below (g := gb165) (o := .cells #[.bool a1_0, .bool a1_1, .bool a1_2] 32 (0, 0)) (by (with_reducible repeat (first | refine blk_drewN ?_ _ | refine blk_drew ?_ | refine blk_alloc ?_ _)); exact BK165.out) hb); have n4_ := Aside0.mk (blk_below (g := gb166) (o := .cells #[.slice none 0 0, .slice none 0 0] 72 (0, 0)) (by (with_reducible repeat (first | refine blk_drewN ?_ _ | refine blk_drew ?_ | refine blk_alloc ?_ _)); exact BK166.out) hb); have n5_ := Aside0.mk (blk_below (g := gb173) (o := .cells #[u174000, u174001] 72 (0, 0)) (by (with_reducible repeat (first | refine blk_drewN ?_ _ | refine blk_drew ?_ | refine blk_alloc ?_ _)); exact BK173.out) hb); have n6_ := Aside0.mk (blk_below (g := gb100032) (o := .stringIter (rdOf ByteArray.empty x174000_1 x7_1) ((x100033000_2 + 1) : Int).toNat) (by (with_reducible repeat (first | refine blk_drewN ?_ _ | refine blk_drew ?_ | refine blk_alloc ?_ _)); exact BI100032.out) hb); have n7_ := Aside0.mk (blk_below (g := gb100037) (o := .stringIter (rdOf ByteArray.empty x174000_1 x7_1) ((x100038000_3 + 1) : Int).toNat) (by (with_reducible repeat (first | refine blk_drewN ?_ _ | refine blk_drew ?_ | refine blk_alloc ?_ _)); exact BI100037.out) hb); have n8_ := Aside0.mk (below_step (by repeat (first | (with_reducible first | exact HB.out | apply below_alloc | apply pw_below_drewN | apply below_drew1 | refine below_set ?_ GE165.out | refine below_set ?_ GE166.out | refine below_set ?_ GE173.out | refine below_set ?_ GE100032.out | refine below_set ?_ GE100037.out) | exact HB.out)) hb); clear HO_6; clear HO_174000; clear HO_174001; clear BK165; clear BK166; clear BK173; clear BI100032; clear BI100037; clear HB; have HO_6 := n0_; have HO_174000 := n1_; have HO_174001 := n2_; have BK165 := n3_; have BK166 := n4_; have BK173 := n5_; have BI100032 := n6_; have BI100037 := n7_; have HB := n8_; clear n0_ n1_ n2_ n3_ n4_ n5_ n6_ n7_ n8_; (try clear hb); (try clear hb2); (try clear hk); (try clear hi); have hnb84 := NB165_166.out; have hnc84 := NB166_165.out; have hnb85 := NB165_173.out; have hnc85 := NB173_165.out; have hnb86 := NB165_100032.out; have hnc86 := NB100032_165.out; have hnb87 := NB165_100037.out; have hnc87 := NB100037_165.out; have hcz88_0 : w83.cell? ⟨gb165, 0, none⟩ = some (.bool a1_0) := (blk_cell BK165.out 0).trans rfl; have hcz88_1 : w83.cell? ⟨gb165, 1, none⟩ = some (.bool a1_1) := (blk_cell BK165.out 1).trans rfl; have hcz88_2 : w83.cell? ⟨gb165, 2, none⟩ = some (.bool a1_2) := (blk_cell BK165.out 2).trans rfl; have hfz88_0 := blk_frozen BK165.out 0; have hfz88_1 := blk_frozen BK165.out 1; have hfz88_2 := blk_frozen BK165.out 2) | ((with_reducible refine gate_callee (f := 94) rfl ?_); refine goesL_ (some 61) rfl rfl Tryd.func94 (by kernel_rfl) rfl #[.string t178, .agg #[.int .i64 x100038000_3, .int .i64 x100033000_2], .agg #[.bool a1_0, .bool a1_1, .bool a1_2]] rfl (by (try simp only [List.map_toArray, List.map_cons, List.map_nil]); first | done | rfl | (simp only [List.length_drop, List.length_take]; rfl)) ?_; (with_reducible refine (spec_ruCan.calls kj31 t178 x100038000_3 x100033000_2 a1_0 a1_1 a1_2 false _ A42.out).mono ?_); rintro e w89 ⟨rfl, hb⟩; refine ⟨_, rfl, ?_⟩; have n0_ := Aside0.mk (Kd.V_below (by (with_reducible repeat (first | apply Kd.V_alloc | apply Kd.V_drewN | apply Kd.V_drew)); exact HO_6.out) hb); have n1_ := Aside0.mk (Kd.R_below (by (with_reducible repeat (first | apply Kd.R_alloc | apply Kd.R_drewN | apply Kd.R_drew)); exact HO_174000.out) hb); have n2_ := Aside0.mk (Kd.R_below (by (with_reducible repeat (first | apply Kd.R_alloc | apply Kd.R_drewN | apply Kd.R_drew)); exact HO_174001.out) hb); have n3_ := Aside0.mk (blk_below (g := gb165) (o := .cells #[.bool a1_0, .bool a1_1, .bool a1_2] 32 (0, 0)) (by (with_reducible repeat (first | refine blk_drewN ?_ _ | refine blk_drew ?_ | refine blk_alloc ?_ _)); exact BK165.out) hb); have n4_ := Aside0.mk (blk_below (g := gb166) (o := .cells #[.slice none 0 0, .slice none 0 0] 72 (0, 0)) (by (with_reducible repeat (first | refine blk_drewN ?_ _ | refine blk_drew ?_ | refine blk_alloc ?_ _)); exact BK166.out) hb); have n5_ := Aside0.mk (blk_below (g := gb173) (o := .cells #[u174000, u174001] 72 (0, 0)) (by (with_reducible repeat (first | refine blk_drewN ?_ _ | refine blk_drew ?_ | refine blk_alloc ?_ _)); exact BK173.out) hb); have n6_ := Aside0.mk (blk_below (g := gb100032) (o := .stringIter (rdOf ByteArray.empty x174000_1 x7_1) ((x100033000_2 + 1) : Int).toNat) (by (with_reducible repeat (first | refine blk_drewN ?_ _ | refine blk_drew ?_ | refine blk_alloc ?_ _)); exact BI100032.out) hb); have n7_ := Aside0.mk (blk_below (g := gb100037) (o := .stringIter (rdOf ByteArray.empty x174000_1 x7_1) ((x100038000_3 + 1) : Int).toNat) (by (with_reducible repeat (first | refine blk_drewN ?_ _ | refine blk_drew ?_ | refine blk_alloc ?_ _)); exact BI100037.out) hb); have n8_ := Aside0.mk (below_step (by repeat (first | (with_reducible first | exact HB.out | apply below_alloc | apply pw_below_drewN | apply below_drew1 | refine below_set ?_ GE165.out | refine below_set ?_ GE166.out | refine below_set ?_ GE173.out | refine below_set ?_ GE100032.out | refine below_set ?_ GE100037.out) | exact HB.out)) hb); clear HO_6; clear HO_174000; clear HO_174001; clear BK165; clear BK166; clear BK173; clear BI100032; clear BI100037; clear HB; have HO_6 := n0_; have HO_174000 := n1_; have HO_174001 := n2_; have BK165 := n3_; have BK166 := n4_; have BK173 := n5_; have BI100032 := n6_; have BI100037 := n7_; have HB := n8_; clear n0_ n1_ n2_ n3_ n4_ n5_ n6_ n7_ n8_; (try clear hb); (try clear hb2); (try clear hk); (try clear hi)))
                                      go_roundg kj31
                                      case measure => have := HK1.out; have := HK2.out; have := HK3.out; have := HJ31.out; omega
                                      case rel => exact ⟨(x6_3), (x174000_3), (x174001_3), ((x100038000_3 + 1)), (u174000), (u174001), H', ⟨by have := HK1.out; have := HK2.out; have := HK3.out; have := HJ31.out; omega⟩, ⟨by (with_reducible repeat (first | apply Kd.V_alloc | apply Kd.V_drewN | apply Kd.V_drew)); exact HO_6.out⟩, ⟨by (with_reducible repeat (first | apply Kd.R_alloc | apply Kd.R_drewN | apply Kd.R_drew)); exact HO_174000.out⟩, ⟨by (with_reducible repeat (first | apply Kd.R_alloc | apply Kd.R_drewN | apply Kd.R_drew)); exact HO_174001.out⟩, ⟨by (with_reducible repeat (first | refine blk_drewN ?_ _ | refine blk_drew ?_ | refine blk_alloc ?_ _)); exact BK165.out⟩, ⟨by (with_reducible repeat (first | refine blk_drewN ?_ _ | refine blk_drew ?_ | refine blk_alloc ?_ _)); exact BK166.out⟩, ⟨by (with_reducible repeat (first | refine blk_drewN ?_ _ | refine blk_drew ?_ | refine blk_alloc ?_ _)); exact BK173.out⟩, ⟨by (with_reducible repeat (first | refine blk_drewN ?_ _ | refine blk_drew ?_ | refine blk_alloc ?_ _)); exact BI100032.out⟩, ⟨by (with_reducible repeat (first | refine blk_drewN ?_ _ | refine blk_drew ?_ | refine blk_alloc ?_ _)); exact BI100037.out⟩, ⟨by repeat (first | (with_reducible first | exact HB.out | apply below_alloc | apply pw_below_drewN | apply below_drew1 | refine below_set ?_ GE165.out | refine below_set ?_ GE166.out | refine below_set ?_ GE173.out | refine below_set ?_ GE100032.out | refine below_set ?_ GE100037.out) | exact HB.out)⟩⟩
                            · rw [if_neg c31] at H
                              exact absurd H (by simp)
                          · rw [if_neg c30] at H
                            have c30b0 : decide (x100038000_3 < ((rdOf ByteArray.empty x174000_1 x7_1).size : Int)) = false := decide_eq_false c30
                            clear c30
                            have H' := Aside0.mk H
                            clear H
                            go_wp2_with (first | ((with_reducible refine gate_dst (N := 38) rfl ?_); refine Go.Proofs.YtjgijaocinpkhaaDoorXW.next_end ?hg (N := 38) ?hd (g := gb100037) (s := (rdOf ByteArray.empty x174000_1 x7_1)) (p := x100038000_3) (by (with_reducible repeat (first | refine blk_drewN ?_ _ | refine blk_drew ?_ | refine blk_alloc ?_ _)); exact BI100037.out) (of_decide_eq_true (by first | (with_reducible assumption) | assumption)) (of_decide_eq_false (by first | (with_reducible assumption) | assumption)) ?hr ?_; (case hd => rfl); (case hg => rfl); (case hr => intro hnx; first | (go_simp; done) | (go_simp; rfl))))
                            go_roundg k3
                            case measure => have := HK1.out; have := HK2.out; have := HK3.out; omega
                            case rel => exact ⟨(x6_3), (x174000_3), (x174001_3), ((x100033000_2 + 1)), (u174000), (u174001), H', ⟨by have := HK1.out; have := HK2.out; have := HK3.out; omega⟩, ⟨by (with_reducible repeat (first | apply Kd.V_alloc | apply Kd.V_drewN | apply Kd.V_drew)); exact Kd.V_mono HO_6.out (fun _ hk => ⟨hk.1, ⟨hk.2.1, ⟨hk.2.2.1, ⟨hk.2.2.2.1, ⟨hk.2.2.2.2.1, hk.2.2.2.2.2.1⟩⟩⟩⟩⟩)⟩, ⟨by (with_reducible repeat (first | apply Kd.R_alloc | apply Kd.R_drewN | apply Kd.R_drew)); exact HO_174000.out⟩, ⟨by (with_reducible repeat (first | apply Kd.R_alloc | apply Kd.R_drewN | apply Kd.R_drew)); exact HO_174001.out⟩, ⟨by (with_reducible repeat (first | refine blk_drewN ?_ _ | refine blk_drew ?_ | refine blk_alloc ?_ _)); exact BK165.out⟩, ⟨by (with_reducible repeat (first | refine blk_drewN ?_ _ | refine blk_drew ?_ | refine blk_alloc ?_ _)); exact BK166.out⟩, ⟨by (with_reducible repeat (first | refine blk_drewN ?_ _ | refine blk_drew ?_ | refine blk_alloc ?_ _)); exact BK173.out⟩, ⟨by (with_reducible repeat (first | refine blk_drewN ?_ _ | refine blk_drew ?_ | refine blk_alloc ?_ _)); exact BI100032.out⟩, ⟨by repeat (first | (with_reducible first | exact HB.out | apply below_alloc | apply pw_below_drewN | apply below_drew1 | refine below_set ?_ GE165.out | refine below_set ?_ GE166.out | refine below_set ?_ GE173.out | refine below_set ?_ GE100032.out | refine below_set ?_ GE100037.out) | exact HB.out)⟩⟩
                        · rw [if_neg c29] at H
                          exact absurd H (by simp)
                  · rw [if_neg c26] at H
                    exact absurd H (by simp)
                · rw [if_neg c25] at H
                  have c25b0 : decide (x100033000_2 < ((rdOf ByteArray.empty x174000_1 x7_1).size : Int)) = false := decide_eq_false c25
                  clear c25
                  have H' := Aside0.mk H
                  clear H
                  go_wp2_with (first | ((with_reducible refine gate_dst (N := 33) rfl ?_); refine Go.Proofs.YtjgijaocinpkhaaDoorXW.next_end ?hg (N := 33) ?hd (g := gb100032) (s := (rdOf ByteArray.empty x174000_1 x7_1)) (p := x100033000_2) (by (with_reducible repeat (first | refine blk_drewN ?_ _ | refine blk_drew ?_ | refine blk_alloc ?_ _)); exact BI100032.out) (of_decide_eq_true (by first | (with_reducible assumption) | assumption)) (of_decide_eq_false (by first | (with_reducible assumption) | assumption)) ?hr ?_; (case hd => rfl); (case hg => rfl); (case hr => intro hnx; first | (go_simp; done) | (go_simp; rfl))))
                  go_roundg k2
                  case measure => have := HK1.out; have := HK2.out; omega
                  case rel => exact ⟨(x6_2), (wrap64 (x7_1 + 1)), (x174000_2), (x174001_2), (u174000), (u174001), (by first | rfl | (simp; done) | (simp [*]; done)), H', ⟨by have := HK1.out; have := HK2.out; omega⟩, ⟨by (with_reducible repeat (first | apply Kd.V_alloc | apply Kd.V_drewN | apply Kd.V_drew)); exact Kd.V_mono HO_6.out (fun _ hk => ⟨hk.1, ⟨hk.2.1, ⟨hk.2.2.1, ⟨hk.2.2.2.1, hk.2.2.2.2.1⟩⟩⟩⟩)⟩, ⟨by (with_reducible repeat (first | apply Kd.R_alloc | apply Kd.R_drewN | apply Kd.R_drew)); exact HO_174000.out⟩, ⟨by (with_reducible repeat (first | apply Kd.R_alloc | apply Kd.R_drewN | apply Kd.R_drew)); exact HO_174001.out⟩, ⟨by (with_reducible repeat (first | refine blk_drewN ?_ _ | refine blk_drew ?_ | refine blk_alloc ?_ _)); exact BK165.out⟩, ⟨by (with_reducible repeat (first | refine blk_drewN ?_ _ | refine blk_drew ?_ | refine blk_alloc ?_ _)); exact BK166.out⟩, ⟨by (with_reducible repeat (first | refine blk_drewN ?_ _ | refine blk_drew ?_ | refine blk_alloc ?_ _)); exact BK173.out⟩, ⟨by repeat (first | (with_reducible first | exact HB.out | apply below_alloc | apply pw_below_drewN | apply below_drew1 | refine below_set ?_ GE165.out | refine below_set ?_ GE166.out | refine below_set ?_ GE173.out | refine below_set ?_ GE100032.out) | exact HB.out)⟩⟩
              · rw [if_neg c24] at H
                exact absurd H (by simp)
        · rw [if_neg c18] at H
          exact absurd H (by simp)
      · rw [if_neg c17] at H
        have c17b0 : decide (x7_1 < (x174000_1.length : Int)) = false := decide_eq_false c17
        clear c17
        simp only [Option.some.injEq, Prod.mk.injEq] at H
        obtain ⟨rfl, rfl⟩ := H
        have hnb90 := NB173_165.out
        have hnc90 := NB165_173.out
        have hnb91 := NB173_166.out
        have hnc91 := NB166_173.out
        have hcz92_0 : wr.cell? ⟨gb173, 0, none⟩ = some (u174000) := (blk_cell BK173.out 0).trans rfl
        have hcz92_1 : wr.cell? ⟨gb173, 1, none⟩ = some (u174001) := (blk_cell BK173.out 1).trans rfl
        have hfz92_0 := blk_frozen BK173.out 0
        have hfz92_1 := blk_frozen BK173.out 1
        obtain ⟨Ao93, co93, eo93⟩ := Kd.R_slice HO_174000.out
        subst eo93
        have hnb94 := NB166_165.out
        have hnc94 := NB165_166.out
        have hcz95_0 : wr.cell? ⟨gb166, 0, none⟩ = some (.slice none 0 0) := (blk_cell BK166.out 0).trans rfl
        have hcz95_1 : wr.cell? ⟨gb166, 1, none⟩ = some (.slice none 0 0) := (blk_cell BK166.out 1).trans rfl
        have hfz95_0 := blk_frozen BK166.out 0
        have hfz95_1 := blk_frozen BK166.out 1
        obtain ⟨Ao96, co96, eo96⟩ := Kd.R_slice HO_174001.out
        subst eo96
        go_wp2
        refine bodyPost_ret (results_cell_row rfl _ _ gb166 72 #[.slice Ao93 x174000_1.length co93, .slice Ao96 x174001_1.length co96] (0, 0) _ rfl (by (with_reducible repeat (first | refine blk_drewN ?_ _ | refine blk_drew ?_ | refine blk_alloc ?_ _)); refine blk_put (cs := #[.slice Ao93 x174000_1.length co93, .slice none 0 0]) ?_ 1 _ rfl; (with_reducible repeat (first | refine blk_drewN ?_ _ | refine blk_drew ?_ | refine blk_alloc ?_ _)); refine blk_put (cs := #[.slice none 0 0, .slice none 0 0]) ?_ 0 _ rfl; (with_reducible repeat (first | refine blk_drewN ?_ _ | refine blk_drew ?_ | refine blk_alloc ?_ _)); exact BK166.out) Tryd.underlying72 rfl (by kernel_rfl)) rfl ?_
        exact ⟨_, _, by first | rfl | (simp [errW_none, errW_some] <;> rfl) | (simp [*, errW_none, errW_some] <;> rfl), by (with_reducible repeat (first | apply Kd.R_alloc | apply Kd.R_drewN | apply Kd.R_drew)); exact Kd.R_mono (Kd.R_far (p := ⟨gb166, 1, none⟩) (Kd.R_far (p := ⟨gb166, 0, none⟩) (Kd.R_types HO_174000.out BK166.out (by decide)) (fun _ hk => hk.2) (.slice Ao93 x174000_1.length co93)) (fun _ hk => hk.2) (.slice Ao96 x174001_1.length co96)) (fun _ hk => trivial), by (with_reducible repeat (first | apply Kd.R_alloc | apply Kd.R_drewN | apply Kd.R_drew)); exact Kd.R_mono (Kd.R_far (p := ⟨gb166, 1, none⟩) (Kd.R_far (p := ⟨gb166, 0, none⟩) (Kd.R_types HO_174001.out BK166.out (by decide)) (fun _ hk => hk.2) (.slice Ao93 x174000_1.length co93)) (fun _ hk => hk.2) (.slice Ao96 x174001_1.length co96)) (fun _ hk => trivial), by repeat (first | (with_reducible first | exact HB.out | apply below_alloc | apply pw_below_drewN | apply below_drew1 | refine below_set ?_ GE165.out | refine below_set ?_ GE166.out | refine below_set ?_ GE173.out) | exact HB.out)⟩

end Go.Proofs.YtjgijaocinpkhaaDoor.XT
