/- The Lean functions that the Go functions of this seat compute, each with the proof that the Go function computes it, for every input (laws: FnExactCountRings, FnExactCountBlockedRings). Conditions: none beyond those that each theorem names. Written by a program of this session over the kit's printer. -/
import Derived.Test.YtpelhinjoambfaaXC0
import Derived.Test.YtpelhinjoambfaaXC1
namespace Go.Proofs.Ytpelhinjoambfaa.XC
open Go.RowKit Go.Proofs.YtpelhinjoambfaaW.PrintWords Go.Proofs.YtpelhinjoambfaaW.PrintLast Go.Proofs.YtpelhinjoambfaaW.PrintMore
attribute [local go_sem] max2_int min2_int max_two min_two max_three min_three max_four min_four   -- for this text's walks alone
attribute [local go_sem] Lib.run_min_strs Go.Proofs.YtpelhinjoambfaaXW.run_min2_strs Go.Proofs.YtpelhinjoambfaaXW.run_int_string
set_option linter.unusedVariables false
set_option linter.unusedSimpArgs false

/-! ### spec_ciCan: function 74 -/
def spec_ciCan.j0 : Nat → ByteArray → Int → Bool → Int → Int → Option (Bool)
  | 0, _, _, _, _, _ => none
  | k + 1, x0, x5, x31, x110000, x110001 => if x31 = true then (some false) else (if 0 ≤ x110000 then (if x110000 < (x0.size : Int) then (if (bt x0 x110000) = 84 then (if x5 = 0 then (none) else (if x110001 = (Int.tmod (wrap64 (x110000 + 1)) x5) then (some true) else (if 0 ≤ (Int.tmod (wrap64 (x110000 + 1)) x5) then (if (Int.tmod (wrap64 (x110000 + 1)) x5) < (x0.size : Int) then (if (bt x0 (Int.tmod (wrap64 (x110000 + 1)) x5)) = 70 then (some (x110001 == (Int.tmod (wrap64 ((Int.tmod (wrap64 (x110000 + 1)) x5) + 1)) x5))) else (some false)) else (none)) else (none)))) else (if (bt x0 x110000) = 70 then (if x5 = 0 then (none) else (if x110001 = (Int.tmod (wrap64 (x110000 + (wrap64 (x5 - 1)))) x5) then (some true) else (if 0 ≤ (Int.tmod (wrap64 (x110000 + (wrap64 (x5 - 1)))) x5) then (if (Int.tmod (wrap64 (x110000 + (wrap64 (x5 - 1)))) x5) < (x0.size : Int) then (if (bt x0 (Int.tmod (wrap64 (x110000 + (wrap64 (x5 - 1)))) x5)) = 84 then (some (x110001 == (Int.tmod (wrap64 ((Int.tmod (wrap64 (x110000 + (wrap64 (x5 - 1)))) x5) + (wrap64 (x5 - 1)))) x5))) else (some false)) else (none)) else (none)))) else (some false))) else (none)) else (none))
def spec_ciCan.f (k : Nat) (a0 : ByteArray) (a1_0 : Int) (a1_1 : Int) : Option (Bool) := (spec_l1In.f a1_0 0 (wrap64 ((a0.size : Int) - 1))).bind fun t110 => (if t110 = true then ((spec_l1In.f a1_1 0 (wrap64 ((a0.size : Int) - 1))).bind fun t111 => (if t111 = true then (if 0 ≤ a1_1 then (if a1_1 < (a0.size : Int) then (spec_ciCan.j0 k a0 (a0.size : Int) ((bt a0 a1_1) != 46) a1_0 a1_1) else (none)) else (none)) else (spec_ciCan.j0 k a0 (a0.size : Int) true a1_0 a1_1))) else (spec_ciCan.j0 k a0 (a0.size : Int) true a1_0 a1_1))
theorem spec_ciCan.mono_l : ∀ k, (∀ y0 y1 y2 y3 y4, LeO (spec_ciCan.j0 k y0 y1 y2 y3 y4) (spec_ciCan.j0 (k + 1) y0 y1 y2 y3 y4))
  | 0 => fun _ _ _ _ _ r h => by simp [spec_ciCan.j0] at h
  | k + 1 => by
    have ih0 := spec_ciCan.mono_l k
    · intro y0 y1 y2 y3 y4
      unfold spec_ciCan.j0
      repeat' first
      | (with_reducible exact ih0 _ _ _ _ _)
      | (with_reducible exact LeO.refl _)
      | (with_reducible exact LeO.none _)
      | (with_reducible refine LeO.ite ?_ ?_)
      | (with_reducible refine LeO.bind ?_ (fun _ => ?_))
      | exact ih0 _ _ _ _ _
      | exact LeO.none _
      | refine LeO.ite ?_ ?_
      | refine LeO.bind ?_ (fun _ => ?_)
theorem spec_ciCan.mono : ∀ a0 a1 a2 k, LeO (spec_ciCan.f k a0 a1 a2) (spec_ciCan.f (k + 1) a0 a1 a2) := by
  intro a0 a1 a2 k
  have ih0 := spec_ciCan.mono_l k
  unfold spec_ciCan.f
  repeat' first
      | (with_reducible exact ih0 _ _ _ _ _)
      | (with_reducible exact LeO.refl _)
      | (with_reducible exact LeO.none _)
      | (with_reducible refine LeO.ite ?_ ?_)
      | (with_reducible refine LeO.bind ?_ (fun _ => ?_))
      | exact ih0 _ _ _ _ _
      | exact LeO.none _
      | refine LeO.ite ?_ ?_
      | refine LeO.bind ?_ (fun _ => ?_)
set_option maxHeartbeats 8000000 in
set_option maxRecDepth 100000 in
theorem spec_ciCan.calls (k : Nat) (a0 : ByteArray) (a1_0 : Int) (a1_1 : Int) (r : Bool) (w : World) (h : spec_ciCan.f k a0 a1_0 a1_1 = some r) :
    Calls Try.prog 74 #[.string a0, .agg #[.int .i64 a1_0, .int .i64 a1_1]] w fun e w' => e = .returned (.bool r) ∧ Below w.heap.size w w' := by
  have hu58 := Try.underlying58
  have HB := Aside0.mk (Below.refl w.heap.size w)
  have H : ((spec_l1In.f a1_0 0 (wrap64 ((a0.size : Int) - 1))).bind fun t110 => (if t110 = true then ((spec_l1In.f a1_1 0 (wrap64 ((a0.size : Int) - 1))).bind fun t111 => (if t111 = true then (if 0 ≤ a1_1 then (if a1_1 < (a0.size : Int) then (spec_ciCan.j0 k a0 (a0.size : Int) ((bt a0 a1_1) != 46) a1_0 a1_1) else (none)) else (none)) else (spec_ciCan.j0 k a0 (a0.size : Int) true a1_0 a1_1))) else (spec_ciCan.j0 k a0 (a0.size : Int) true a1_0 a1_1))) = some r := h
  clear h
  have HC3 := Aside0.mk H
  clear H
  go_enter Try.func74, Try.ntmps74
  go_upto_region 2 with (first | ((with_reducible refine gate_dst (N := 3) rfl ?_); refine box_event ?hg (N := 3) ?hd (cs := #[.int .i64 a1_0, .int .i64 a1_1]) (t := 58) ?hr ?_; (case hd => rfl); (case hg => rfl); (case hr => first | (go_simp; done) | (go_simp; rfl)); intro gb109 hg w4 hbox hb; have n0_ := Aside0.mk (below_step (by repeat (first | (with_reducible first | exact HB.out | apply below_alloc | apply pw_below_drewN | apply below_drew1) | exact HB.out)) hb); have n1_ := Aside0.mk (hbox); have n2_ := Aside0.mk ((by rw [hg]; exact (below_size (by repeat (first | (with_reducible first | exact HB.out | apply below_alloc | apply pw_below_drewN | apply below_drew1) | exact HB.out))) : w.heap.size ≤ gb109)); have n3_ := Aside0.mk ((by rw [hg]; exact (below_size (by repeat (first | (with_reducible first | exact HB.out | apply below_alloc | apply pw_below_drewN | apply below_drew1) | exact HB.out))) : w.heap.size ≤ gb109)); clear HB; have HB := n0_; have BK109 := n1_; have GW109 := n2_; have GE109 := n3_; clear n0_ n1_ n2_ n3_; clear hb hbox hg))
  repeat (go_quiet (first | ((with_reducible refine gate_dst (N := 3) rfl ?_); refine box_event ?hg (N := 3) ?hd (cs := #[.int .i64 a1_0, .int .i64 a1_1]) (t := 58) ?hr ?_; (case hd => rfl); (case hg => rfl); (case hr => first | (go_simp; done) | (go_simp; rfl)); intro gb109 hg w4 hbox hb; have n0_ := Aside0.mk (below_step (by repeat (first | (with_reducible first | exact HB.out | apply below_alloc | apply pw_below_drewN | apply below_drew1) | exact HB.out)) hb); have n1_ := Aside0.mk (hbox); have n2_ := Aside0.mk ((by rw [hg]; exact (below_size (by repeat (first | (with_reducible first | exact HB.out | apply below_alloc | apply pw_below_drewN | apply below_drew1) | exact HB.out))) : w.heap.size ≤ gb109)); have n3_ := Aside0.mk ((by rw [hg]; exact (below_size (by repeat (first | (with_reducible first | exact HB.out | apply below_alloc | apply pw_below_drewN | apply below_drew1) | exact HB.out))) : w.heap.size ≤ gb109)); clear HB; have HB := n0_; have BK109 := n1_; have GW109 := n2_; have GE109 := n3_; clear n0_ n1_ n2_ n3_; clear hb hbox hg)); go_upto_region 2 with (first | ((with_reducible refine gate_dst (N := 3) rfl ?_); refine box_event ?hg (N := 3) ?hd (cs := #[.int .i64 a1_0, .int .i64 a1_1]) (t := 58) ?hr ?_; (case hd => rfl); (case hg => rfl); (case hr => first | (go_simp; done) | (go_simp; rfl)); intro gb109 hg w4 hbox hb; have n0_ := Aside0.mk (below_step (by repeat (first | (with_reducible first | exact HB.out | apply below_alloc | apply pw_below_drewN | apply below_drew1) | exact HB.out)) hb); have n1_ := Aside0.mk (hbox); have n2_ := Aside0.mk ((by rw [hg]; exact (below_size (by repeat (first | (with_reducible first | exact HB.out | apply below_alloc | apply pw_below_drewN | apply below_drew1) | exact HB.out))) : w.heap.size ≤ gb109)); have n3_ := Aside0.mk ((by rw [hg]; exact (below_size (by repeat (first | (with_reducible first | exact HB.out | apply below_alloc | apply pw_below_drewN | apply below_drew1) | exact HB.out))) : w.heap.size ≤ gb109)); clear HB; have HB := n0_; have BK109 := n1_; have GW109 := n2_; have GE109 := n3_; clear n0_ n1_ n2_ n3_; clear hb hbox hg)))
  (try simp only [Act.put, List.setIfInBounds_toArray, List.set_cons_zero, List.set_cons_succ])
  go_cut [31] (fun v31 wc => ∃ (kq : Nat) (x31_2 : Bool), v31 = .bool x31_2 ∧ Aside0 (spec_ciCan.j0 kq a0 (a0.size : Int) x31_2 a1_0 a1_1 = some r) ∧ Aside0 (kq ≤ k) ∧ Aside0 (wc.heap[gb109]? = some (.cells #[.int .i64 a1_0, .int .i64 a1_1] 58 (0, 0))) ∧ Aside0 (Below w.heap.size w wc))
  case first =>
    have H := HC3.out
    clear HC3
    replace H := Option.bind_eq_some_iff.mp H
    obtain ⟨t110, A50, H⟩ := H
    replace H : (if t110 = true then ((spec_l1In.f a1_1 0 (wrap64 ((a0.size : Int) - 1))).bind fun t111 => (if t111 = true then (if 0 ≤ a1_1 then (if a1_1 < (a0.size : Int) then (spec_ciCan.j0 k a0 (a0.size : Int) ((bt a0 a1_1) != 46) a1_0 a1_1) else (none)) else (none)) else (spec_ciCan.j0 k a0 (a0.size : Int) true a1_0 a1_1))) else (spec_ciCan.j0 k a0 (a0.size : Int) true a1_0 a1_1)) = some r := H
    have A5 := Aside0.mk A50
    clear A50
    by_cases c6 : t110 = true
    · subst c6
      have H1 : ((spec_l1In.f a1_1 0 (wrap64 ((a0.size : Int) - 1))).bind fun t111 => (if t111 = true then (if 0 ≤ a1_1 then (if a1_1 < (a0.size : Int) then (spec_ciCan.j0 k a0 (a0.size : Int) ((bt a0 a1_1) != 46) a1_0 a1_1) else (none)) else (none)) else (spec_ciCan.j0 k a0 (a0.size : Int) true a1_0 a1_1))) = some r := by rw [if_pos rfl] at H; exact H
      clear H
      have H := H1
      clear H1
      replace H := Option.bind_eq_some_iff.mp H
      obtain ⟨t111, A70, H⟩ := H
      replace H : (if t111 = true then (if 0 ≤ a1_1 then (if a1_1 < (a0.size : Int) then (spec_ciCan.j0 k a0 (a0.size : Int) ((bt a0 a1_1) != 46) a1_0 a1_1) else (none)) else (none)) else (spec_ciCan.j0 k a0 (a0.size : Int) true a1_0 a1_1)) = some r := H
      have A7 := Aside0.mk A70
      clear A70
      by_cases c8 : t111 = true
      · subst c8
        have H1 : (if 0 ≤ a1_1 then (if a1_1 < (a0.size : Int) then (spec_ciCan.j0 k a0 (a0.size : Int) ((bt a0 a1_1) != 46) a1_0 a1_1) else (none)) else (none)) = some r := by rw [if_pos rfl] at H; exact H
        clear H
        have H := H1
        clear H1
        by_cases c9 : 0 ≤ a1_1
        · rw [if_pos c9] at H
          have c9b0 : decide (0 ≤ a1_1) = true := decide_eq_true c9
          clear c9
          (first | rw [c9b0] | (simp only [i64_w, i32_w]; rw [c9b0]) | skip)
          by_cases c10 : a1_1 < (a0.size : Int)
          · rw [if_pos c10] at H
            have c10b0 : decide (a1_1 < (a0.size : Int)) = true := decide_eq_true c10
            clear c10
            have H' := Aside0.mk H
            clear H
            have hcz12_0 : w4.cell? ⟨gb109, 0, none⟩ = some (.int .i64 a1_0) := (blk_cell BK109.out 0).trans rfl
            have hcz12_1 : w4.cell? ⟨gb109, 1, none⟩ = some (.int .i64 a1_1) := (blk_cell BK109.out 1).trans rfl
            have hfz12_0 := blk_frozen BK109.out 0
            have hfz12_1 := blk_frozen BK109.out 1
            go_wp2_with (first | (go_at_call 25; (try refine Go.Proofs.YtpelhinjoambfaaXW.calls_args64 (by simp only [Go.Proofs.YtpelhinjoambfaaXW.wrapEq]; rfl) ?_); (with_reducible refine (spec_l1In.calls a1_0 0 (wrap64 ((a0.size : Int) - 1)) true _ A5.out).mono ?_); rintro e w' ⟨rfl, ⟨nd, rfl⟩⟩; (try first | exact ⟨rfl, _, World.drewN_drewN _ _ _⟩ | exact ⟨rfl, _, Eq.trans (World.drewN_drewN _ _ _) (congrArg (World.drewN _) (Nat.add_assoc _ _ _))⟩)) | (go_at_call 25; (try refine Go.Proofs.YtpelhinjoambfaaXW.calls_args64 (by simp only [Go.Proofs.YtpelhinjoambfaaXW.wrapEq]; rfl) ?_); (with_reducible refine (spec_l1In.calls a1_1 0 (wrap64 ((a0.size : Int) - 1)) true _ A7.out).mono ?_); rintro e w' ⟨rfl, ⟨nd, rfl⟩⟩; (try first | exact ⟨rfl, _, World.drewN_drewN _ _ _⟩ | exact ⟨rfl, _, Eq.trans (World.drewN_drewN _ _ _) (congrArg (World.drewN _) (Nat.add_assoc _ _ _))⟩); have p11 : 0 ≤ (a1_1 : Int) := of_decide_eq_true (by first | (with_reducible assumption) | assumption); have q11 : a1_1 < (a0.size : Int) := of_decide_eq_true (by first | (with_reducible assumption) | assumption); have hx11 := bt_at a0 a1_1; replace p11 := eq_true p11; replace q11 := eq_true q11))
            repeat (go_quiet (first | (go_at_call 25; (try refine Go.Proofs.YtpelhinjoambfaaXW.calls_args64 (by simp only [Go.Proofs.YtpelhinjoambfaaXW.wrapEq]; rfl) ?_); (with_reducible refine (spec_l1In.calls a1_0 0 (wrap64 ((a0.size : Int) - 1)) true _ A5.out).mono ?_); rintro e w' ⟨rfl, ⟨nd, rfl⟩⟩; (try first | exact ⟨rfl, _, World.drewN_drewN _ _ _⟩ | exact ⟨rfl, _, Eq.trans (World.drewN_drewN _ _ _) (congrArg (World.drewN _) (Nat.add_assoc _ _ _))⟩)) | (go_at_call 25; (try refine Go.Proofs.YtpelhinjoambfaaXW.calls_args64 (by simp only [Go.Proofs.YtpelhinjoambfaaXW.wrapEq]; rfl) ?_); (with_reducible refine (spec_l1In.calls a1_1 0 (wrap64 ((a0.size : Int) - 1)) true _ A7.out).mono ?_); rintro e w' ⟨rfl, ⟨nd, rfl⟩⟩; (try first | exact ⟨rfl, _, World.drewN_drewN _ _ _⟩ | exact ⟨rfl, _, Eq.trans (World.drewN_drewN _ _ _) (congrArg (World.drewN _) (Nat.add_assoc _ _ _))⟩); have p11 : 0 ≤ (a1_1 : Int) := of_decide_eq_true (by first | (with_reducible assumption) | assumption); have q11 : a1_1 < (a0.size : Int) := of_decide_eq_true (by first | (with_reducible assumption) | assumption); have hx11 := bt_at a0 a1_1; replace p11 := eq_true p11; replace q11 := eq_true q11)); try go_wp2_with (first | (go_at_call 25; (try refine Go.Proofs.YtpelhinjoambfaaXW.calls_args64 (by simp only [Go.Proofs.YtpelhinjoambfaaXW.wrapEq]; rfl) ?_); (with_reducible refine (spec_l1In.calls a1_0 0 (wrap64 ((a0.size : Int) - 1)) true _ A5.out).mono ?_); rintro e w' ⟨rfl, ⟨nd, rfl⟩⟩; (try first | exact ⟨rfl, _, World.drewN_drewN _ _ _⟩ | exact ⟨rfl, _, Eq.trans (World.drewN_drewN _ _ _) (congrArg (World.drewN _) (Nat.add_assoc _ _ _))⟩)) | (go_at_call 25; (try refine Go.Proofs.YtpelhinjoambfaaXW.calls_args64 (by simp only [Go.Proofs.YtpelhinjoambfaaXW.wrapEq]; rfl) ?_); (with_reducible refine (spec_l1In.calls a1_1 0 (wrap64 ((a0.size : Int) - 1)) true _ A7.out).mono ?_); rintro e w' ⟨rfl, ⟨nd, rfl⟩⟩; (try first | exact ⟨rfl, _, World.drewN_drewN _ _ _⟩ | exact ⟨rfl, _, Eq.trans (World.drewN_drewN _ _ _) (congrArg (World.drewN _) (Nat.add_assoc _ _ _))⟩); have p11 : 0 ≤ (a1_1 : Int) := of_decide_eq_true (by first | (with_reducible assumption) | assumption); have q11 : a1_1 < (a0.size : Int) := of_decide_eq_true (by first | (with_reducible assumption) | assumption); have hx11 := bt_at a0 a1_1; replace p11 := eq_true p11; replace q11 := eq_true q11)))
            go_meet
            case rel => exact ⟨_, (((bt a0 a1_1) != 46)), (by first | rfl | (simp; done) | (simp [*]; done)), H', ⟨by first | omega | exact Nat.le_refl _⟩, ⟨by (with_reducible repeat (first | refine blk_drewN ?_ _ | refine blk_drew ?_ | refine blk_alloc ?_ _)); exact BK109.out⟩, ⟨by repeat (first | (with_reducible first | exact HB.out | apply below_alloc | apply pw_below_drewN | apply below_drew1 | refine below_set ?_ GE109.out) | exact HB.out)⟩⟩
          · rw [if_neg c10] at H
            exact absurd H (by simp)
        · rw [if_neg c9] at H
          exact absurd H (by simp)
      · replace c8 := Bool.eq_false_iff.mpr c8
        subst c8
        have H1 : (spec_ciCan.j0 k a0 (a0.size : Int) true a1_0 a1_1) = some r := by rw [if_neg (show ¬ (false = true) by decide)] at H; exact H
        clear H
        have H := H1
        clear H1
        have H' := Aside0.mk H
        clear H
        have hcz13_0 : w4.cell? ⟨gb109, 0, none⟩ = some (.int .i64 a1_0) := (blk_cell BK109.out 0).trans rfl
        have hcz13_1 : w4.cell? ⟨gb109, 1, none⟩ = some (.int .i64 a1_1) := (blk_cell BK109.out 1).trans rfl
        have hfz13_0 := blk_frozen BK109.out 0
        have hfz13_1 := blk_frozen BK109.out 1
        go_wp2_with (first | (go_at_call 25; (try refine Go.Proofs.YtpelhinjoambfaaXW.calls_args64 (by simp only [Go.Proofs.YtpelhinjoambfaaXW.wrapEq]; rfl) ?_); (with_reducible refine (spec_l1In.calls a1_0 0 (wrap64 ((a0.size : Int) - 1)) true _ A5.out).mono ?_); rintro e w' ⟨rfl, ⟨nd, rfl⟩⟩; (try first | exact ⟨rfl, _, World.drewN_drewN _ _ _⟩ | exact ⟨rfl, _, Eq.trans (World.drewN_drewN _ _ _) (congrArg (World.drewN _) (Nat.add_assoc _ _ _))⟩)) | (go_at_call 25; (try refine Go.Proofs.YtpelhinjoambfaaXW.calls_args64 (by simp only [Go.Proofs.YtpelhinjoambfaaXW.wrapEq]; rfl) ?_); (with_reducible refine (spec_l1In.calls a1_1 0 (wrap64 ((a0.size : Int) - 1)) false _ A7.out).mono ?_); rintro e w' ⟨rfl, ⟨nd, rfl⟩⟩; (try first | exact ⟨rfl, _, World.drewN_drewN _ _ _⟩ | exact ⟨rfl, _, Eq.trans (World.drewN_drewN _ _ _) (congrArg (World.drewN _) (Nat.add_assoc _ _ _))⟩)))
        repeat (go_quiet (first | (go_at_call 25; (try refine Go.Proofs.YtpelhinjoambfaaXW.calls_args64 (by simp only [Go.Proofs.YtpelhinjoambfaaXW.wrapEq]; rfl) ?_); (with_reducible refine (spec_l1In.calls a1_0 0 (wrap64 ((a0.size : Int) - 1)) true _ A5.out).mono ?_); rintro e w' ⟨rfl, ⟨nd, rfl⟩⟩; (try first | exact ⟨rfl, _, World.drewN_drewN _ _ _⟩ | exact ⟨rfl, _, Eq.trans (World.drewN_drewN _ _ _) (congrArg (World.drewN _) (Nat.add_assoc _ _ _))⟩)) | (go_at_call 25; (try refine Go.Proofs.YtpelhinjoambfaaXW.calls_args64 (by simp only [Go.Proofs.YtpelhinjoambfaaXW.wrapEq]; rfl) ?_); (with_reducible refine (spec_l1In.calls a1_1 0 (wrap64 ((a0.size : Int) - 1)) false _ A7.out).mono ?_); rintro e w' ⟨rfl, ⟨nd, rfl⟩⟩; (try first | exact ⟨rfl, _, World.drewN_drewN _ _ _⟩ | exact ⟨rfl, _, Eq.trans (World.drewN_drewN _ _ _) (congrArg (World.drewN _) (Nat.add_assoc _ _ _))⟩))); try go_wp2_with (first | (go_at_call 25; (try refine Go.Proofs.YtpelhinjoambfaaXW.calls_args64 (by simp only [Go.Proofs.YtpelhinjoambfaaXW.wrapEq]; rfl) ?_); (with_reducible refine (spec_l1In.calls a1_0 0 (wrap64 ((a0.size : Int) - 1)) true _ A5.out).mono ?_); rintro e w' ⟨rfl, ⟨nd, rfl⟩⟩; (try first | exact ⟨rfl, _, World.drewN_drewN _ _ _⟩ | exact ⟨rfl, _, Eq.trans (World.drewN_drewN _ _ _) (congrArg (World.drewN _) (Nat.add_assoc _ _ _))⟩)) | (go_at_call 25; (try refine Go.Proofs.YtpelhinjoambfaaXW.calls_args64 (by simp only [Go.Proofs.YtpelhinjoambfaaXW.wrapEq]; rfl) ?_); (with_reducible refine (spec_l1In.calls a1_1 0 (wrap64 ((a0.size : Int) - 1)) false _ A7.out).mono ?_); rintro e w' ⟨rfl, ⟨nd, rfl⟩⟩; (try first | exact ⟨rfl, _, World.drewN_drewN _ _ _⟩ | exact ⟨rfl, _, Eq.trans (World.drewN_drewN _ _ _) (congrArg (World.drewN _) (Nat.add_assoc _ _ _))⟩))))
        go_meet
        case rel => exact ⟨_, (true), (by first | rfl | (simp; done) | (simp [*]; done)), H', ⟨by first | omega | exact Nat.le_refl _⟩, ⟨by (with_reducible repeat (first | refine blk_drewN ?_ _ | refine blk_drew ?_ | refine blk_alloc ?_ _)); exact BK109.out⟩, ⟨by repeat (first | (with_reducible first | exact HB.out | apply below_alloc | apply pw_below_drewN | apply below_drew1 | refine below_set ?_ GE109.out) | exact HB.out)⟩⟩
    · replace c6 := Bool.eq_false_iff.mpr c6
      subst c6
      have H1 : (spec_ciCan.j0 k a0 (a0.size : Int) true a1_0 a1_1) = some r := by rw [if_neg (show ¬ (false = true) by decide)] at H; exact H
      clear H
      have H := H1
      clear H1
      have H' := Aside0.mk H
      clear H
      have hcz14_0 : w4.cell? ⟨gb109, 0, none⟩ = some (.int .i64 a1_0) := (blk_cell BK109.out 0).trans rfl
      have hcz14_1 : w4.cell? ⟨gb109, 1, none⟩ = some (.int .i64 a1_1) := (blk_cell BK109.out 1).trans rfl
      have hfz14_0 := blk_frozen BK109.out 0
      have hfz14_1 := blk_frozen BK109.out 1
      go_wp2_with (first | (go_at_call 25; (try refine Go.Proofs.YtpelhinjoambfaaXW.calls_args64 (by simp only [Go.Proofs.YtpelhinjoambfaaXW.wrapEq]; rfl) ?_); (with_reducible refine (spec_l1In.calls a1_0 0 (wrap64 ((a0.size : Int) - 1)) false _ A5.out).mono ?_); rintro e w' ⟨rfl, ⟨nd, rfl⟩⟩; (try first | exact ⟨rfl, _, World.drewN_drewN _ _ _⟩ | exact ⟨rfl, _, Eq.trans (World.drewN_drewN _ _ _) (congrArg (World.drewN _) (Nat.add_assoc _ _ _))⟩)))
      repeat (go_quiet (first | (go_at_call 25; (try refine Go.Proofs.YtpelhinjoambfaaXW.calls_args64 (by simp only [Go.Proofs.YtpelhinjoambfaaXW.wrapEq]; rfl) ?_); (with_reducible refine (spec_l1In.calls a1_0 0 (wrap64 ((a0.size : Int) - 1)) false _ A5.out).mono ?_); rintro e w' ⟨rfl, ⟨nd, rfl⟩⟩; (try first | exact ⟨rfl, _, World.drewN_drewN _ _ _⟩ | exact ⟨rfl, _, Eq.trans (World.drewN_drewN _ _ _) (congrArg (World.drewN _) (Nat.add_assoc _ _ _))⟩))); try go_wp2_with (first | (go_at_call 25; (try refine Go.Proofs.YtpelhinjoambfaaXW.calls_args64 (by simp only [Go.Proofs.YtpelhinjoambfaaXW.wrapEq]; rfl) ?_); (with_reducible refine (spec_l1In.calls a1_0 0 (wrap64 ((a0.size : Int) - 1)) false _ A5.out).mono ?_); rintro e w' ⟨rfl, ⟨nd, rfl⟩⟩; (try first | exact ⟨rfl, _, World.drewN_drewN _ _ _⟩ | exact ⟨rfl, _, Eq.trans (World.drewN_drewN _ _ _) (congrArg (World.drewN _) (Nat.add_assoc _ _ _))⟩))))
      go_meet
      case rel => exact ⟨_, (true), (by first | rfl | (simp; done) | (simp [*]; done)), H', ⟨by first | omega | exact Nat.le_refl _⟩, ⟨by (with_reducible repeat (first | refine blk_drewN ?_ _ | refine blk_drew ?_ | refine blk_alloc ?_ _)); exact BK109.out⟩, ⟨by repeat (first | (with_reducible first | exact HB.out | apply below_alloc | apply pw_below_drewN | apply below_drew1 | refine below_set ?_ GE109.out) | exact HB.out)⟩⟩
  case rest =>
    clear HC3
    try clear c1
    try clear p1
    try clear q1
    try clear hx1
    try clear p2
    try clear c6
    try clear p6
    try clear c7
    try clear c8
    try clear c9
    try clear c9b0
    try clear c10
    try clear c10b0
    try clear p11
    try clear q11
    try clear hx11
    try clear hcz12_0
    try clear hcz12_1
    try clear hcz13_0
    try clear hcz13_1
    try clear hcz14_0
    try clear hcz14_1
    try clear hfz12_0
    try clear hfz12_1
    try clear hfz13_0
    try clear hfz13_1
    try clear hfz14_0
    try clear hfz14_1
    try clear p11
    try clear q11
    obtain ⟨kq, x31_2, rfl, HA, HJ2, BK109, HB⟩ := hcut
    cases kq with
    | zero => exact absurd HA.out (by simp [spec_ciCan.j0])
    | succ kj2 =>
      have H := HA.out
      clear HA
      simp only [spec_ciCan.j0] at H
      by_cases c15 : x31_2 = true
      · subst c15
        have H1 : (some false) = some r := by rw [if_pos rfl] at H; exact H
        clear H
        have H := H1
        clear H1
        obtain rfl := Option.some.inj H
        go_wp2
        repeat (go_quiet (fail); try go_wp2)
        go_ret
        exact ⟨by first | rfl | (simp [errW_none, errW_some] <;> rfl) | (simp [*, errW_none, errW_some] <;> rfl), by repeat (first | (with_reducible first | exact HB.out | apply below_alloc | apply pw_below_drewN | apply below_drew1 | refine below_set ?_ GE109.out) | exact HB.out)⟩
      · replace c15 := Bool.eq_false_iff.mpr c15
        subst c15
        have H1 : (if 0 ≤ a1_0 then (if a1_0 < (a0.size : Int) then (if (bt a0 a1_0) = 84 then (if (a0.size : Int) = 0 then (none) else (if a1_1 = (Int.tmod (wrap64 (a1_0 + 1)) (a0.size : Int)) then (some true) else (if 0 ≤ (Int.tmod (wrap64 (a1_0 + 1)) (a0.size : Int)) then (if (Int.tmod (wrap64 (a1_0 + 1)) (a0.size : Int)) < (a0.size : Int) then (if (bt a0 (Int.tmod (wrap64 (a1_0 + 1)) (a0.size : Int))) = 70 then (some (a1_1 == (Int.tmod (wrap64 ((Int.tmod (wrap64 (a1_0 + 1)) (a0.size : Int)) + 1)) (a0.size : Int)))) else (some false)) else (none)) else (none)))) else (if (bt a0 a1_0) = 70 then (if (a0.size : Int) = 0 then (none) else (if a1_1 = (Int.tmod (wrap64 (a1_0 + (wrap64 ((a0.size : Int) - 1)))) (a0.size : Int)) then (some true) else (if 0 ≤ (Int.tmod (wrap64 (a1_0 + (wrap64 ((a0.size : Int) - 1)))) (a0.size : Int)) then (if (Int.tmod (wrap64 (a1_0 + (wrap64 ((a0.size : Int) - 1)))) (a0.size : Int)) < (a0.size : Int) then (if (bt a0 (Int.tmod (wrap64 (a1_0 + (wrap64 ((a0.size : Int) - 1)))) (a0.size : Int))) = 84 then (some (a1_1 == (Int.tmod (wrap64 ((Int.tmod (wrap64 (a1_0 + (wrap64 ((a0.size : Int) - 1)))) (a0.size : Int)) + (wrap64 ((a0.size : Int) - 1)))) (a0.size : Int)))) else (some false)) else (none)) else (none)))) else (some false))) else (none)) else (none)) = some r := by rw [if_neg (show ¬ (false = true) by decide)] at H; exact H
        clear H
        have H := H1
        clear H1
        by_cases c16 : 0 ≤ a1_0
        · rw [if_pos c16] at H
          have c16b0 : decide (0 ≤ a1_0) = true := decide_eq_true c16
          clear c16
          by_cases c17 : a1_0 < (a0.size : Int)
          · rw [if_pos c17] at H
            have c17b0 : decide (a1_0 < (a0.size : Int)) = true := decide_eq_true c17
            clear c17
            by_cases c19 : (bt a0 a1_0) = 84
            · rw [if_pos c19] at H
              have c19b0 : ((bt a0 a1_0) == 84) = true := beq_iff_eq.mpr c19
              have c19b1 : ((bt a0 a1_0) != 84) = false := bne_eq_false_iff_eq.mpr c19
              clear c19
              by_cases c20 : (a0.size : Int) = 0
              · rw [if_pos c20] at H
                exact absurd H (by simp)
              · rw [if_neg c20] at H
                have c20b0 : ((a0.size : Int) == 0) = false := beq_eq_false_iff_ne.mpr c20
                have c20b1 : ((a0.size : Int) != 0) = true := bne_iff_ne.mpr c20
                by_cases c21 : a1_1 = (Int.tmod (wrap64 (a1_0 + 1)) (a0.size : Int))
                · rw [if_pos c21] at H
                  have c21b0 : (a1_1 == (Int.tmod (wrap64 (a1_0 + 1)) (a0.size : Int))) = true := beq_iff_eq.mpr c21
                  have c21b1 : (a1_1 != (Int.tmod (wrap64 (a1_0 + 1)) (a0.size : Int))) = false := bne_eq_false_iff_eq.mpr c21
                  clear c21
                  obtain rfl := Option.some.inj H
                  have hcz22_0 : wc.cell? ⟨gb109, 0, none⟩ = some (.int .i64 a1_0) := (blk_cell BK109.out 0).trans rfl
                  have hcz22_1 : wc.cell? ⟨gb109, 1, none⟩ = some (.int .i64 a1_1) := (blk_cell BK109.out 1).trans rfl
                  have hfz22_0 := blk_frozen BK109.out 0
                  have hfz22_1 := blk_frozen BK109.out 1
                  have p18 : 0 ≤ (a1_0 : Int) := of_decide_eq_true (by first | (with_reducible assumption) | assumption)
                  have q18 : a1_0 < (a0.size : Int) := of_decide_eq_true (by first | (with_reducible assumption) | assumption)
                  have hx18 := bt_at a0 a1_0
                  replace p18 := eq_true p18
                  replace q18 := eq_true q18
                  go_wp2
                  repeat (go_quiet (fail); try go_wp2)
                  go_ret
                  exact ⟨by first | rfl | (simp [errW_none, errW_some] <;> rfl) | (simp [*, errW_none, errW_some] <;> rfl), by repeat (first | (with_reducible first | exact HB.out | apply below_alloc | apply pw_below_drewN | apply below_drew1 | refine below_set ?_ GE109.out) | exact HB.out)⟩
                · rw [if_neg c21] at H
                  have c21b0 : (a1_1 == (Int.tmod (wrap64 (a1_0 + 1)) (a0.size : Int))) = false := beq_eq_false_iff_ne.mpr c21
                  have c21b1 : (a1_1 != (Int.tmod (wrap64 (a1_0 + 1)) (a0.size : Int))) = true := bne_iff_ne.mpr c21
                  obtain ⟨ji23, hji23⟩ : ∃ j_ : Int, (Int.tmod (wrap64 (a1_0 + 1)) (a0.size : Int)) = j_ := ⟨_, rfl⟩
                  replace H : (if 0 ≤ (ji23) then (if (ji23) < (a0.size : Int) then (if (bt a0 (ji23)) = 70 then (some (a1_1 == (Int.tmod (wrap64 ((ji23) + 1)) (a0.size : Int)))) else (some false)) else (none)) else (none)) = some r := by first | (rw [hji23] at H; exact H) | (simp only [hji23] at H ⊢; exact H)
                  (try rw [hji23] at c21b0)
                  (try rw [hji23] at c21b1)
                  by_cases c24 : 0 ≤ (ji23)
                  · rw [if_pos c24] at H
                    have c24b0 : decide (0 ≤ (ji23)) = true := decide_eq_true c24
                    clear c24
                    by_cases c25 : (ji23) < (a0.size : Int)
                    · rw [if_pos c25] at H
                      have c25b0 : decide ((ji23) < (a0.size : Int)) = true := decide_eq_true c25
                      clear c25
                      by_cases c27 : (bt a0 (ji23)) = 70
                      · rw [if_pos c27] at H
                        have c27b0 : ((bt a0 (ji23)) == 70) = true := beq_iff_eq.mpr c27
                        have c27b1 : ((bt a0 (ji23)) != 70) = false := bne_eq_false_iff_eq.mpr c27
                        clear c27
                        obtain rfl := Option.some.inj H
                        have hcz28_0 : wc.cell? ⟨gb109, 0, none⟩ = some (.int .i64 a1_0) := (blk_cell BK109.out 0).trans rfl
                        have hcz28_1 : wc.cell? ⟨gb109, 1, none⟩ = some (.int .i64 a1_1) := (blk_cell BK109.out 1).trans rfl
                        have hfz28_0 := blk_frozen BK109.out 0
                        have hfz28_1 := blk_frozen BK109.out 1
                        have p18 : 0 ≤ (a1_0 : Int) := of_decide_eq_true (by first | (with_reducible assumption) | assumption)
                        have q18 : a1_0 < (a0.size : Int) := of_decide_eq_true (by first | (with_reducible assumption) | assumption)
                        have hx18 := bt_at a0 a1_0
                        replace p18 := eq_true p18
                        replace q18 := eq_true q18
                        have p26 : 0 ≤ ((ji23) : Int) := of_decide_eq_true (by first | (with_reducible assumption) | assumption)
                        have q26 : (ji23) < (a0.size : Int) := of_decide_eq_true (by first | (with_reducible assumption) | assumption)
                        have hx26 := bt_at a0 (ji23)
                        replace p26 := eq_true p26
                        replace q26 := eq_true q26
                        go_wp2
                        repeat (go_quiet (fail); try go_wp2)
                        go_ret
                        exact ⟨by first | rfl | (simp [errW_none, errW_some] <;> rfl) | (simp only [← hji23]; first | rfl | (simp [errW_none, errW_some] <;> rfl)) | (simp [*, errW_none, errW_some] <;> rfl), by repeat (first | (with_reducible first | exact HB.out | apply below_alloc | apply pw_below_drewN | apply below_drew1 | refine below_set ?_ GE109.out) | exact HB.out)⟩
                      · rw [if_neg c27] at H
                        have c27b0 : ((bt a0 (ji23)) == 70) = false := beq_eq_false_iff_ne.mpr c27
                        have c27b1 : ((bt a0 (ji23)) != 70) = true := bne_iff_ne.mpr c27
                        obtain rfl := Option.some.inj H
                        have hcz29_0 : wc.cell? ⟨gb109, 0, none⟩ = some (.int .i64 a1_0) := (blk_cell BK109.out 0).trans rfl
                        have hcz29_1 : wc.cell? ⟨gb109, 1, none⟩ = some (.int .i64 a1_1) := (blk_cell BK109.out 1).trans rfl
                        have hfz29_0 := blk_frozen BK109.out 0
                        have hfz29_1 := blk_frozen BK109.out 1
                        have p18 : 0 ≤ (a1_0 : Int) := of_decide_eq_true (by first | (with_reducible assumption) | assumption)
                        have q18 : a1_0 < (a0.size : Int) := of_decide_eq_true (by first | (with_reducible assumption) | assumption)
                        have hx18 := bt_at a0 a1_0
                        replace p18 := eq_true p18
                        replace q18 := eq_true q18
                        have p26 : 0 ≤ ((ji23) : Int) := of_decide_eq_true (by first | (with_reducible assumption) | assumption)
                        have q26 : (ji23) < (a0.size : Int) := of_decide_eq_true (by first | (with_reducible assumption) | assumption)
                        have hx26 := bt_at a0 (ji23)
                        replace p26 := eq_true p26
                        replace q26 := eq_true q26
                        go_wp2
                        repeat (go_quiet (fail); try go_wp2)
                        go_ret
                        exact ⟨by first | rfl | (simp [errW_none, errW_some] <;> rfl) | (simp only [← hji23]; first | rfl | (simp [errW_none, errW_some] <;> rfl)) | (simp [*, errW_none, errW_some] <;> rfl), by repeat (first | (with_reducible first | exact HB.out | apply below_alloc | apply pw_below_drewN | apply below_drew1 | refine below_set ?_ GE109.out) | exact HB.out)⟩
                    · rw [if_neg c25] at H
                      exact absurd H (by simp)
                  · rw [if_neg c24] at H
                    exact absurd H (by simp)
            · rw [if_neg c19] at H
              have c19b0 : ((bt a0 a1_0) == 84) = false := beq_eq_false_iff_ne.mpr c19
              have c19b1 : ((bt a0 a1_0) != 84) = true := bne_iff_ne.mpr c19
              by_cases c30 : (bt a0 a1_0) = 70
              · rw [if_pos c30] at H
                have c30b0 : ((bt a0 a1_0) == 70) = true := beq_iff_eq.mpr c30
                have c30b1 : ((bt a0 a1_0) != 70) = false := bne_eq_false_iff_eq.mpr c30
                clear c30
                by_cases c31 : (a0.size : Int) = 0
                · rw [if_pos c31] at H
                  exact absurd H (by simp)
                · rw [if_neg c31] at H
                  have c31b0 : ((a0.size : Int) == 0) = false := beq_eq_false_iff_ne.mpr c31
                  have c31b1 : ((a0.size : Int) != 0) = true := bne_iff_ne.mpr c31
                  by_cases c32 : a1_1 = (Int.tmod (wrap64 (a1_0 + (wrap64 ((a0.size : Int) - 1)))) (a0.size : Int))
                  · rw [if_pos c32] at H
                    have c32b0 : (a1_1 == (Int.tmod (wrap64 (a1_0 + (wrap64 ((a0.size : Int) - 1)))) (a0.size : Int))) = true := beq_iff_eq.mpr c32
                    have c32b1 : (a1_1 != (Int.tmod (wrap64 (a1_0 + (wrap64 ((a0.size : Int) - 1)))) (a0.size : Int))) = false := bne_eq_false_iff_eq.mpr c32
                    clear c32
                    obtain rfl := Option.some.inj H
                    have hcz33_0 : wc.cell? ⟨gb109, 0, none⟩ = some (.int .i64 a1_0) := (blk_cell BK109.out 0).trans rfl
                    have hcz33_1 : wc.cell? ⟨gb109, 1, none⟩ = some (.int .i64 a1_1) := (blk_cell BK109.out 1).trans rfl
                    have hfz33_0 := blk_frozen BK109.out 0
                    have hfz33_1 := blk_frozen BK109.out 1
                    have p18 : 0 ≤ (a1_0 : Int) := of_decide_eq_true (by first | (with_reducible assumption) | assumption)
                    have q18 : a1_0 < (a0.size : Int) := of_decide_eq_true (by first | (with_reducible assumption) | assumption)
                    have hx18 := bt_at a0 a1_0
                    replace p18 := eq_true p18
                    replace q18 := eq_true q18
                    go_wp2
                    repeat (go_quiet (fail); try go_wp2)
                    go_ret
                    exact ⟨by first | rfl | (simp [errW_none, errW_some] <;> rfl) | (simp [*, errW_none, errW_some] <;> rfl), by repeat (first | (with_reducible first | exact HB.out | apply below_alloc | apply pw_below_drewN | apply below_drew1 | refine below_set ?_ GE109.out) | exact HB.out)⟩
                  · rw [if_neg c32] at H
                    have c32b0 : (a1_1 == (Int.tmod (wrap64 (a1_0 + (wrap64 ((a0.size : Int) - 1)))) (a0.size : Int))) = false := beq_eq_false_iff_ne.mpr c32
                    have c32b1 : (a1_1 != (Int.tmod (wrap64 (a1_0 + (wrap64 ((a0.size : Int) - 1)))) (a0.size : Int))) = true := bne_iff_ne.mpr c32
                    obtain ⟨ji34, hji34⟩ : ∃ j_ : Int, (Int.tmod (wrap64 (a1_0 + (wrap64 ((a0.size : Int) - 1)))) (a0.size : Int)) = j_ := ⟨_, rfl⟩
                    replace H : (if 0 ≤ (ji34) then (if (ji34) < (a0.size : Int) then (if (bt a0 (ji34)) = 84 then (some (a1_1 == (Int.tmod (wrap64 ((ji34) + (wrap64 ((a0.size : Int) - 1)))) (a0.size : Int)))) else (some false)) else (none)) else (none)) = some r := by first | (rw [hji34] at H; exact H) | (simp only [hji34] at H ⊢; exact H)
                    (try rw [hji34] at c32b0)
                    (try rw [hji34] at c32b1)
                    by_cases c35 : 0 ≤ (ji34)
                    · rw [if_pos c35] at H
                      have c35b0 : decide (0 ≤ (ji34)) = true := decide_eq_true c35
                      clear c35
                      by_cases c36 : (ji34) < (a0.size : Int)
                      · rw [if_pos c36] at H
                        have c36b0 : decide ((ji34) < (a0.size : Int)) = true := decide_eq_true c36
                        clear c36
                        by_cases c38 : (bt a0 (ji34)) = 84
                        · rw [if_pos c38] at H
                          have c38b0 : ((bt a0 (ji34)) == 84) = true := beq_iff_eq.mpr c38
                          have c38b1 : ((bt a0 (ji34)) != 84) = false := bne_eq_false_iff_eq.mpr c38
                          clear c38
                          obtain rfl := Option.some.inj H
                          have hcz39_0 : wc.cell? ⟨gb109, 0, none⟩ = some (.int .i64 a1_0) := (blk_cell BK109.out 0).trans rfl
                          have hcz39_1 : wc.cell? ⟨gb109, 1, none⟩ = some (.int .i64 a1_1) := (blk_cell BK109.out 1).trans rfl
                          have hfz39_0 := blk_frozen BK109.out 0
                          have hfz39_1 := blk_frozen BK109.out 1
                          have p18 : 0 ≤ (a1_0 : Int) := of_decide_eq_true (by first | (with_reducible assumption) | assumption)
                          have q18 : a1_0 < (a0.size : Int) := of_decide_eq_true (by first | (with_reducible assumption) | assumption)
                          have hx18 := bt_at a0 a1_0
                          replace p18 := eq_true p18
                          replace q18 := eq_true q18
                          have p37 : 0 ≤ ((ji34) : Int) := of_decide_eq_true (by first | (with_reducible assumption) | assumption)
                          have q37 : (ji34) < (a0.size : Int) := of_decide_eq_true (by first | (with_reducible assumption) | assumption)
                          have hx37 := bt_at a0 (ji34)
                          replace p37 := eq_true p37
                          replace q37 := eq_true q37
                          go_wp2
                          repeat (go_quiet (fail); try go_wp2)
                          go_ret
                          exact ⟨by first | rfl | (simp [errW_none, errW_some] <;> rfl) | (simp only [← hji34]; first | rfl | (simp [errW_none, errW_some] <;> rfl)) | (simp [*, errW_none, errW_some] <;> rfl), by repeat (first | (with_reducible first | exact HB.out | apply below_alloc | apply pw_below_drewN | apply below_drew1 | refine below_set ?_ GE109.out) | exact HB.out)⟩
                        · rw [if_neg c38] at H
                          have c38b0 : ((bt a0 (ji34)) == 84) = false := beq_eq_false_iff_ne.mpr c38
                          have c38b1 : ((bt a0 (ji34)) != 84) = true := bne_iff_ne.mpr c38
                          obtain rfl := Option.some.inj H
                          have hcz40_0 : wc.cell? ⟨gb109, 0, none⟩ = some (.int .i64 a1_0) := (blk_cell BK109.out 0).trans rfl
                          have hcz40_1 : wc.cell? ⟨gb109, 1, none⟩ = some (.int .i64 a1_1) := (blk_cell BK109.out 1).trans rfl
                          have hfz40_0 := blk_frozen BK109.out 0
                          have hfz40_1 := blk_frozen BK109.out 1
                          have p18 : 0 ≤ (a1_0 : Int) := of_decide_eq_true (by first | (with_reducible assumption) | assumption)
                          have q18 : a1_0 < (a0.size : Int) := of_decide_eq_true (by first | (with_reducible assumption) | assumption)
                          have hx18 := bt_at a0 a1_0
                          replace p18 := eq_true p18
                          replace q18 := eq_true q18
                          have p37 : 0 ≤ ((ji34) : Int) := of_decide_eq_true (by first | (with_reducible assumption) | assumption)
                          have q37 : (ji34) < (a0.size : Int) := of_decide_eq_true (by first | (with_reducible assumption) | assumption)
                          have hx37 := bt_at a0 (ji34)
                          replace p37 := eq_true p37
                          replace q37 := eq_true q37
                          go_wp2
                          repeat (go_quiet (fail); try go_wp2)
                          go_ret
                          exact ⟨by first | rfl | (simp [errW_none, errW_some] <;> rfl) | (simp only [← hji34]; first | rfl | (simp [errW_none, errW_some] <;> rfl)) | (simp [*, errW_none, errW_some] <;> rfl), by repeat (first | (with_reducible first | exact HB.out | apply below_alloc | apply pw_below_drewN | apply below_drew1 | refine below_set ?_ GE109.out) | exact HB.out)⟩
                      · rw [if_neg c36] at H
                        exact absurd H (by simp)
                    · rw [if_neg c35] at H
                      exact absurd H (by simp)
              · rw [if_neg c30] at H
                have c30b0 : ((bt a0 a1_0) == 70) = false := beq_eq_false_iff_ne.mpr c30
                have c30b1 : ((bt a0 a1_0) != 70) = true := bne_iff_ne.mpr c30
                obtain rfl := Option.some.inj H
                have hcz41_0 : wc.cell? ⟨gb109, 0, none⟩ = some (.int .i64 a1_0) := (blk_cell BK109.out 0).trans rfl
                have hcz41_1 : wc.cell? ⟨gb109, 1, none⟩ = some (.int .i64 a1_1) := (blk_cell BK109.out 1).trans rfl
                have hfz41_0 := blk_frozen BK109.out 0
                have hfz41_1 := blk_frozen BK109.out 1
                have p18 : 0 ≤ (a1_0 : Int) := of_decide_eq_true (by first | (with_reducible assumption) | assumption)
                have q18 : a1_0 < (a0.size : Int) := of_decide_eq_true (by first | (with_reducible assumption) | assumption)
                have hx18 := bt_at a0 a1_0
                replace p18 := eq_true p18
                replace q18 := eq_true q18
                go_wp2
                repeat (go_quiet (fail); try go_wp2)
                go_ret
                exact ⟨by first | rfl | (simp [errW_none, errW_some] <;> rfl) | (simp [*, errW_none, errW_some] <;> rfl), by repeat (first | (with_reducible first | exact HB.out | apply below_alloc | apply pw_below_drewN | apply below_drew1 | refine below_set ?_ GE109.out) | exact HB.out)⟩
          · rw [if_neg c17] at H
            exact absurd H (by simp)
        · rw [if_neg c16] at H
          exact absurd H (by simp)

/-! ### spec_ciMoves: function 55 -/
mutual
def spec_ciMoves.l0 : Nat → ByteArray → List (S58) → Int → ByteArray → Option ((List (S58)))
  | 0, _, _, _, _ => none
  | k + 1, x0, x3, x100009000, x100009001 => if 0 ≤ x100009000 then (if x100009000 < (x100009001.size : Int) then (if bt x100009001 x100009000 < 128 then (spec_ciMoves.l1 k x0 x3 x100009000 (x100009000 + 1) x100009001 0 x0) else (none)) else (some x3)) else (none)
def spec_ciMoves.l1 : Nat → ByteArray → List (S58) → Int → Int → ByteArray → Int → ByteArray → Option ((List (S58)))
  | 0, _, _, _, _, _, _, _ => none
  | k + 1, x0, x3, x4, x100009000, x100009001, x100014000, x100014001 => if 0 ≤ x100014000 then (if x100014000 < (x100014001.size : Int) then (if bt x100014001 x100014000 < 128 then ((spec_ciCan.f k x0 x4 x100014000).bind fun t113 => (if t113 = true then (if x3.length < 8796093022208 then (spec_ciMoves.l1 k x0 (x3 ++ [(⟨x4, x100014000⟩ : S58)]) x4 x100009000 x100009001 (x100014000 + 1) x100014001) else (none)) else (spec_ciMoves.l1 k x0 x3 x4 x100009000 x100009001 (x100014000 + 1) x100014001))) else (none)) else (spec_ciMoves.l0 k x0 x3 x100009000 x100009001)) else (none)
end
def spec_ciMoves.f (k : Nat) (a0 : ByteArray) : Option ((List (S58))) := spec_ciMoves.l0 k a0 ([] : List (S58)) 0 a0
theorem spec_ciMoves.mono_l : ∀ k, (∀ y0 y1 y2 y3, LeO (spec_ciMoves.l0 k y0 y1 y2 y3) (spec_ciMoves.l0 (k + 1) y0 y1 y2 y3)) ∧ (∀ y0 y1 y2 y3 y4 y5 y6, LeO (spec_ciMoves.l1 k y0 y1 y2 y3 y4 y5 y6) (spec_ciMoves.l1 (k + 1) y0 y1 y2 y3 y4 y5 y6))
  | 0 => ⟨fun _ _ _ _ r h => by simp [spec_ciMoves.l0] at h, fun _ _ _ _ _ _ _ r h => by simp [spec_ciMoves.l1] at h⟩
  | k + 1 => by
    obtain ⟨ih0, ih1⟩ := spec_ciMoves.mono_l k
    refine ⟨?_, ?_⟩
    · intro y0 y1 y2 y3
      unfold spec_ciMoves.l0
      repeat' first
      | (with_reducible exact ih0 _ _ _ _)
      | (with_reducible exact ih1 _ _ _ _ _ _ _)
      | (with_reducible exact spec_ciCan.mono _ _ _ _)
      | (with_reducible exact LeO.refl _)
      | (with_reducible exact LeO.none _)
      | (with_reducible refine LeO.ite ?_ ?_)
      | (with_reducible refine LeO.bind ?_ (fun _ => ?_))
      | exact ih0 _ _ _ _
      | exact ih1 _ _ _ _ _ _ _
      | exact spec_ciCan.mono _ _ _ _
      | exact LeO.none _
      | refine LeO.ite ?_ ?_
      | refine LeO.bind ?_ (fun _ => ?_)
    · intro y0 y1 y2 y3 y4 y5 y6
      unfold spec_ciMoves.l1
      repeat' first
      | (with_reducible exact ih0 _ _ _ _)
      | (with_reducible exact ih1 _ _ _ _ _ _ _)
      | (with_reducible exact spec_ciCan.mono _ _ _ _)
      | (with_reducible exact LeO.refl _)
      | (with_reducible exact LeO.none _)
      | (with_reducible refine LeO.ite ?_ ?_)
      | (with_reducible refine LeO.bind ?_ (fun _ => ?_))
      | exact ih0 _ _ _ _
      | exact ih1 _ _ _ _ _ _ _
      | exact spec_ciCan.mono _ _ _ _
      | exact LeO.none _
      | refine LeO.ite ?_ ?_
      | refine LeO.bind ?_ (fun _ => ?_)
theorem spec_ciMoves.mono : ∀ a0 k, LeO (spec_ciMoves.f k a0) (spec_ciMoves.f (k + 1) a0) := by
  intro a0 k
  obtain ⟨ih0, ih1⟩ := spec_ciMoves.mono_l k
  unfold spec_ciMoves.f
  repeat' first
      | (with_reducible exact ih0 _ _ _ _)
      | (with_reducible exact ih1 _ _ _ _ _ _ _)
      | (with_reducible exact spec_ciCan.mono _ _ _ _)
      | (with_reducible exact LeO.refl _)
      | (with_reducible exact LeO.none _)
      | (with_reducible refine LeO.ite ?_ ?_)
      | (with_reducible refine LeO.bind ?_ (fun _ => ?_))
      | exact ih0 _ _ _ _
      | exact ih1 _ _ _ _ _ _ _
      | exact spec_ciCan.mono _ _ _ _
      | exact LeO.none _
      | refine LeO.ite ?_ ?_
      | refine LeO.bind ?_ (fun _ => ?_)
set_option maxHeartbeats 8000000 in
set_option maxRecDepth 100000 in
theorem spec_ciMoves.calls (k : Nat) (a0 : ByteArray) (r : List (S58)) (w : World) (h : spec_ciMoves.f k a0 = some r) :
    Calls Try.prog 55 #[.string a0] w fun e w' => ∃ v0_ : Value, e = .returned (v0_) ∧ Kd.R k58 58 w' w.heap.size (fun _ => True) v0_ r ∧ Below w.heap.size w w' := by
  have hu58 := Try.underlying58
  have HB := Aside0.mk (Below.refl w.heap.size w)
  have H : (spec_ciMoves.l0 k a0 ([] : List (S58)) 0 a0) = some r := h
  clear h
  have H' := Aside0.mk H
  clear H
  go_enter Try.func55, Try.ntmps55
  go_wp2_with (first | ((with_reducible refine gate_dst (N := 8) rfl ?_); refine Go.Proofs.YtpelhinjoambfaaXW.iter_event ?hg (N := 8) ?hd (s := a0) ?hr ?_; (case hd => rfl); (case hg => rfl); (case hr => first | (go_simp; done) | (go_simp; rfl)); intro gb100008 hg w2 hbox hb; have n0_ := Aside0.mk (below_step (by repeat (first | (with_reducible first | exact HB.out | apply below_alloc | apply pw_below_drewN | apply below_drew1) | exact HB.out)) hb); have n1_ := Aside0.mk (hbox); have n2_ := Aside0.mk ((by rw [hg]; exact (below_size (by repeat (first | (with_reducible first | exact HB.out | apply below_alloc | apply pw_below_drewN | apply below_drew1) | exact HB.out))) : w.heap.size ≤ gb100008)); have n3_ := Aside0.mk ((by rw [hg]; exact (below_size (by repeat (first | (with_reducible first | exact HB.out | apply below_alloc | apply pw_below_drewN | apply below_drew1) | exact HB.out))) : w.heap.size ≤ gb100008)); clear HB; have HB := n0_; have BI100008 := n1_; have GW100008 := n2_; have GE100008 := n3_; clear n0_ n1_ n2_ n3_; clear hb hbox hg))
  (try simp only [Act.put, List.setIfInBounds_toArray, List.set_cons_zero, List.set_cons_succ])
  go_loopg [3] k (fun kq v3 w' => ∃ (x3_1 : List (S58)) (x100009000_1 : Int), Aside0 (spec_ciMoves.l0 kq a0 x3_1 x100009000_1 a0 = some r) ∧ Aside0 (kq ≤ k) ∧ Aside0 (Kd.R k58 58 w' w.heap.size (fun _ => True) v3 x3_1) ∧ Aside0 (w'.heap[gb100008]? = some (.stringIter a0 (x100009000_1 : Int).toNat)) ∧ Aside0 (Below w.heap.size w w'))
  case atStart => exact ⟨(([] : List (S58))), (0), H', ⟨Nat.le_refl _⟩, ⟨by first | exact Kd.R_nil _ _ _ _ _ | exact Kd.N_nil _ _ _ _ _ | exact Kd.V_nil _ _ _ _ _ | exact Kd.Q_nil _ _ _ _ _ | exact Kd.S_nil _ _ _ _ _⟩, ⟨by (with_reducible repeat (first | refine blk_drewN ?_ _ | refine blk_drew ?_ | refine blk_alloc ?_ _)); exact BI100008.out⟩, ⟨by repeat (first | (with_reducible first | exact HB.out | apply below_alloc | apply pw_below_drewN | apply below_drew1 | refine below_set ?_ GE100008.out) | exact HB.out)⟩⟩
  case round =>
    clear H'
    try clear p2
    obtain ⟨x3_1, x100009000_1, HA, HK1, HO_3, BI100008, HB⟩ := hrel
    cases gk with
    | zero => exact absurd HA.out (by simp [spec_ciMoves.l0])
    | succ k1 =>
      have H := HA.out
      clear HA
      simp only [spec_ciMoves.l0] at H
      by_cases c3 : 0 ≤ x100009000_1
      · rw [if_pos c3] at H
        have c3b0 : decide (0 ≤ x100009000_1) = true := decide_eq_true c3
        clear c3
        by_cases c4 : x100009000_1 < (a0.size : Int)
        · rw [if_pos c4] at H
          have c4b0 : decide (x100009000_1 < (a0.size : Int)) = true := decide_eq_true c4
          clear c4
          by_cases c5 : bt a0 x100009000_1 < 128
          · rw [if_pos c5] at H
            have c5b0 : decide (bt a0 x100009000_1 < 128) = true := decide_eq_true c5
            clear c5
            have H' := Aside0.mk H
            clear H
            go_wp2_with (first | ((with_reducible refine gate_dst (N := 9) rfl ?_); refine Go.Proofs.YtpelhinjoambfaaXW.next_step ?hg (N := 9) ?hd (g := gb100008) (s := a0) (p := x100009000_1) (by (with_reducible repeat (first | refine blk_drewN ?_ _ | refine blk_drew ?_ | refine blk_alloc ?_ _)); exact BI100008.out) (of_decide_eq_true (by first | (with_reducible assumption) | assumption)) (of_decide_eq_true (by first | (with_reducible assumption) | assumption)) (of_decide_eq_true (by first | (with_reducible assumption) | assumption)) ?hr ?_; (case hd => rfl); (case hg => rfl); (case hr => intro bq hnx; first | (go_simp; done) | (go_simp; rfl)); intro w6 hit hkp hbl; have n0_ := Aside0.mk (Go.Proofs.YtpelhinjoambfaaXW.R_iter (by (with_reducible repeat (first | apply Kd.R_alloc | apply Kd.R_drewN | apply Kd.R_drew)); exact HO_3.out) (by (with_reducible repeat (first | refine blk_drewN ?_ _ | refine blk_drew ?_ | refine blk_alloc ?_ _)); exact BI100008.out) hkp); have n1_ := Aside0.mk (hit); have n2_ := Aside0.mk (hbl _ _ (by repeat (first | (with_reducible first | exact HB.out | apply below_alloc | apply pw_below_drewN | apply below_drew1 | refine below_set ?_ GE100008.out) | exact HB.out)) GE100008.out); clear HO_3; clear BI100008; clear HB; have HO_3 := n0_; have BI100008 := n1_; have HB := n2_; clear n0_ n1_ n2_; clear hit hkp hbl) | ((with_reducible refine gate_dst (N := 13) rfl ?_); refine Go.Proofs.YtpelhinjoambfaaXW.iter_event ?hg (N := 13) ?hd (s := a0) ?hr ?_; (case hd => rfl); (case hg => rfl); (case hr => first | (go_simp; done) | (go_simp; rfl)); intro gb100013 hg w7 hbox hb; have n0_ := Aside0.mk (Kd.R_below (by (with_reducible repeat (first | apply Kd.R_alloc | apply Kd.R_drewN | apply Kd.R_drew)); exact HO_3.out) hb); have n1_ := Aside0.mk (blk_below (g := gb100008) (o := .stringIter a0 (x100009000_1 + 1 : Int).toNat) (by (with_reducible repeat (first | refine blk_drewN ?_ _ | refine blk_drew ?_ | refine blk_alloc ?_ _)); exact BI100008.out) hb); have n2_ := Aside0.mk (below_step (by repeat (first | (with_reducible first | exact HB.out | apply below_alloc | apply pw_below_drewN | apply below_drew1 | refine below_set ?_ GE100008.out) | exact HB.out)) hb); have n3_ := Aside0.mk (hbox); have n4_ := Aside0.mk ((by rw [hg]; exact (below_size (by repeat (first | (with_reducible first | exact HB.out | apply below_alloc | apply pw_below_drewN | apply below_drew1 | refine below_set ?_ GE100008.out) | exact HB.out))) : w.heap.size ≤ gb100013)); have n5_ := Aside0.mk ((by rw [hg]; exact (below_size (by repeat (first | (with_reducible first | exact HB.out | apply below_alloc | apply pw_below_drewN | apply below_drew1 | refine below_set ?_ GE100008.out) | exact HB.out))) : w.heap.size ≤ gb100013)); have n6_ := Aside0.mk ((by rw [hg]; exact Nat.ne_of_lt (blk_lt (g := gb100008) (o := .stringIter a0 (x100009000_1 + 1 : Int).toNat) (by (with_reducible repeat (first | refine blk_drewN ?_ _ | refine blk_drew ?_ | refine blk_alloc ?_ _)); exact BI100008.out)) : gb100008 ≠ gb100013)); have n7_ := Aside0.mk ((by rw [hg]; exact Nat.ne_of_gt (blk_lt (g := gb100008) (o := .stringIter a0 (x100009000_1 + 1 : Int).toNat) (by (with_reducible repeat (first | refine blk_drewN ?_ _ | refine blk_drew ?_ | refine blk_alloc ?_ _)); exact BI100008.out)) : gb100013 ≠ gb100008)); clear HO_3; clear BI100008; clear HB; have HO_3 := n0_; have BI100008 := n1_; have HB := n2_; have BI100013 := n3_; have GW100013 := n4_; have GE100013 := n5_; have NB100008_100013 := n6_; have NB100013_100008 := n7_; clear n0_ n1_ n2_ n3_ n4_ n5_ n6_ n7_; clear hb hbox hg))
            (try simp only [Act.put, List.setIfInBounds_toArray, List.set_cons_zero, List.set_cons_succ])
            go_loopg [3] k1 (fun kq v3 w' => ∃ (x3_2 : List (S58)) (x100014000_2 : Int), Aside0 (spec_ciMoves.l1 kq a0 x3_2 x100009000_1 (x100009000_1 + 1) a0 x100014000_2 a0 = some r) ∧ Aside0 (kq ≤ k1) ∧ Aside0 (Kd.R k58 58 w' w.heap.size (fun _ => True) v3 x3_2) ∧ Aside0 (w'.heap[gb100008]? = some (.stringIter a0 ((x100009000_1 + 1) : Int).toNat)) ∧ Aside0 (w'.heap[gb100013]? = some (.stringIter a0 (x100014000_2 : Int).toNat)) ∧ Aside0 (Below w.heap.size w w'))
            case atStart => exact ⟨(x3_1), (0), H', ⟨Nat.le_refl _⟩, ⟨by (with_reducible repeat (first | apply Kd.R_alloc | apply Kd.R_drewN | apply Kd.R_drew)); exact HO_3.out⟩, ⟨by (with_reducible repeat (first | refine blk_drewN ?_ _ | refine blk_drew ?_ | refine blk_alloc ?_ _)); exact BI100008.out⟩, ⟨by (with_reducible repeat (first | refine blk_drewN ?_ _ | refine blk_drew ?_ | refine blk_alloc ?_ _)); exact BI100013.out⟩, ⟨by repeat (first | (with_reducible first | exact HB.out | apply below_alloc | apply pw_below_drewN | apply below_drew1 | refine below_set ?_ GE100008.out | refine below_set ?_ GE100013.out) | exact HB.out)⟩⟩
            case round =>
              clear H'
              try clear p2
              try clear c3
              try clear c3b0
              try clear c4
              try clear c4b0
              try clear c5
              try clear c5b0
              try clear p2
              obtain ⟨x3_2, x100014000_2, HA, HK2, HO_3, BI100008, BI100013, HB⟩ := hrel
              cases gk with
              | zero => exact absurd HA.out (by simp [spec_ciMoves.l1])
              | succ k2 =>
                have H := HA.out
                clear HA
                simp only [spec_ciMoves.l1] at H
                by_cases c8 : 0 ≤ x100014000_2
                · rw [if_pos c8] at H
                  have c8b0 : decide (0 ≤ x100014000_2) = true := decide_eq_true c8
                  clear c8
                  by_cases c9 : x100014000_2 < (a0.size : Int)
                  · rw [if_pos c9] at H
                    have c9b0 : decide (x100014000_2 < (a0.size : Int)) = true := decide_eq_true c9
                    clear c9
                    by_cases c10 : bt a0 x100014000_2 < 128
                    · rw [if_pos c10] at H
                      have c10b0 : decide (bt a0 x100014000_2 < 128) = true := decide_eq_true c10
                      clear c10
                      replace H := Option.bind_eq_some_iff.mp H
                      obtain ⟨t113, A110, H⟩ := H
                      replace H : (if t113 = true then (if x3_2.length < 8796093022208 then (spec_ciMoves.l1 k2 a0 (x3_2 ++ [(⟨x100009000_1, x100014000_2⟩ : S58)]) x100009000_1 (x100009000_1 + 1) a0 (x100014000_2 + 1) a0) else (none)) else (spec_ciMoves.l1 k2 a0 x3_2 x100009000_1 (x100009000_1 + 1) a0 (x100014000_2 + 1) a0)) = some r := H
                      have A11 := Aside0.mk A110
                      clear A110
                      by_cases c12 : t113 = true
                      · subst c12
                        have H1 : (if x3_2.length < 8796093022208 then (spec_ciMoves.l1 k2 a0 (x3_2 ++ [(⟨x100009000_1, x100014000_2⟩ : S58)]) x100009000_1 (x100009000_1 + 1) a0 (x100014000_2 + 1) a0) else (none)) = some r := by rw [if_pos rfl] at H; exact H
                        clear H
                        have H := H1
                        clear H1
                        by_cases c13 : x3_2.length < 8796093022208
                        · rw [if_pos c13] at H
                          have LMc13 := Aside0.mk c13
                          clear c13
                          obtain ⟨y114, hy114⟩ : ∃ y_ : List (S58), y_ = (x3_2 ++ [(⟨x100009000_1, x100014000_2⟩ : S58)]) := ⟨_, rfl⟩
                          replace H : (spec_ciMoves.l1 k2 a0 y114 x100009000_1 (x100009000_1 + 1) a0 (x100014000_2 + 1) a0) = some r := by first | (rw [hy114]; with_reducible exact H) | (have H2_ := (Option.bind_some _ _).symm.trans H; rw [hy114]; with_reducible exact H2_) | (have H2_ := (Option.bind_some _ _).symm.trans H; with_reducible exact H2_) | with_reducible exact H | (rw [hy114]; exact H) | exact H
                          have Ny114 := Aside0.mk hy114
                          clear hy114
                          have H' := Aside0.mk H
                          clear H
                          go_wp2_with (first | ((with_reducible refine gate_dst (N := 14) rfl ?_); refine Go.Proofs.YtpelhinjoambfaaXW.next_step ?hg (N := 14) ?hd (g := gb100013) (s := a0) (p := x100014000_2) (by (with_reducible repeat (first | refine blk_drewN ?_ _ | refine blk_drew ?_ | refine blk_alloc ?_ _)); exact BI100013.out) (of_decide_eq_true (by first | (with_reducible assumption) | assumption)) (of_decide_eq_true (by first | (with_reducible assumption) | assumption)) (of_decide_eq_true (by first | (with_reducible assumption) | assumption)) ?hr ?_; (case hd => rfl); (case hg => rfl); (case hr => intro bq hnx; first | (go_simp; done) | (go_simp; rfl)); intro w14 hit hkp hbl; have n0_ := Aside0.mk (Go.Proofs.YtpelhinjoambfaaXW.R_iter (by (with_reducible repeat (first | apply Kd.R_alloc | apply Kd.R_drewN | apply Kd.R_drew)); exact HO_3.out) (by (with_reducible repeat (first | refine blk_drewN ?_ _ | refine blk_drew ?_ | refine blk_alloc ?_ _)); exact BI100013.out) hkp); have n1_ := Aside0.mk (blk_kept (by (with_reducible repeat (first | refine blk_drewN ?_ _ | refine blk_drew ?_ | refine blk_alloc ?_ _)); exact BI100008.out) hkp NB100008_100013.out); have n2_ := Aside0.mk (hit); have n3_ := Aside0.mk (hbl _ _ (by repeat (first | (with_reducible first | exact HB.out | apply below_alloc | apply pw_below_drewN | apply below_drew1 | refine below_set ?_ GE100008.out | refine below_set ?_ GE100013.out) | exact HB.out)) GE100013.out); clear HO_3; clear BI100008; clear BI100013; clear HB; have HO_3 := n0_; have BI100008 := n1_; have BI100013 := n2_; have HB := n3_; clear n0_ n1_ n2_ n3_; clear hit hkp hbl) | ((with_reducible refine gate_dst (N := 6) rfl ?_); refine box_event ?hg (N := 6) ?hd (cs := #[.int .i64 0, .int .i64 0]) (t := 58) ?hr ?_; (case hd => rfl); (case hg => rfl); (case hr => first | (go_simp; done) | (go_simp; rfl)); intro gb112 hg w15 hbox hb; have n0_ := Aside0.mk (Kd.R_below (Kd.R_elderB (by (with_reducible repeat (first | apply Kd.R_alloc | apply Kd.R_drewN | apply Kd.R_drew)); exact HO_3.out) gb112 (Nat.le_of_eq hg.symm)) hb); have n1_ := Aside0.mk (blk_below (g := gb100008) (o := .stringIter a0 ((x100009000_1 + 1) : Int).toNat) (by (with_reducible repeat (first | refine blk_drewN ?_ _ | refine blk_drew ?_ | refine blk_alloc ?_ _)); exact BI100008.out) hb); have n2_ := Aside0.mk (blk_below (g := gb100013) (o := .stringIter a0 (x100014000_2 + 1 : Int).toNat) (by (with_reducible repeat (first | refine blk_drewN ?_ _ | refine blk_drew ?_ | refine blk_alloc ?_ _)); exact BI100013.out) hb); have n3_ := Aside0.mk (below_step (by repeat (first | (with_reducible first | exact HB.out | apply below_alloc | apply pw_below_drewN | apply below_drew1 | refine below_set ?_ GE100008.out | refine below_set ?_ GE100013.out) | exact HB.out)) hb); have n4_ := Aside0.mk (hbox); have n5_ := Aside0.mk ((by rw [hg]; exact (below_size (by repeat (first | (with_reducible first | exact HB.out | apply below_alloc | apply pw_below_drewN | apply below_drew1 | refine below_set ?_ GE100008.out | refine below_set ?_ GE100013.out) | exact HB.out))) : w.heap.size ≤ gb112)); have n6_ := Aside0.mk ((by rw [hg]; exact (below_size (by repeat (first | (with_reducible first | exact HB.out | apply below_alloc | apply pw_below_drewN | apply below_drew1 | refine below_set ?_ GE100008.out | refine below_set ?_ GE100013.out) | exact HB.out))) : w.heap.size ≤ gb112)); have n7_ := Aside0.mk ((by rw [hg]; exact Nat.ne_of_lt (blk_lt (g := gb100008) (o := .stringIter a0 ((x100009000_1 + 1) : Int).toNat) (by (with_reducible repeat (first | refine blk_drewN ?_ _ | refine blk_drew ?_ | refine blk_alloc ?_ _)); exact BI100008.out)) : gb100008 ≠ gb112)); have n8_ := Aside0.mk ((by rw [hg]; exact Nat.ne_of_gt (blk_lt (g := gb100008) (o := .stringIter a0 ((x100009000_1 + 1) : Int).toNat) (by (with_reducible repeat (first | refine blk_drewN ?_ _ | refine blk_drew ?_ | refine blk_alloc ?_ _)); exact BI100008.out)) : gb112 ≠ gb100008)); have n9_ := Aside0.mk ((by rw [hg]; exact Nat.ne_of_lt (blk_lt (g := gb100013) (o := .stringIter a0 (x100014000_2 + 1 : Int).toNat) (by (with_reducible repeat (first | refine blk_drewN ?_ _ | refine blk_drew ?_ | refine blk_alloc ?_ _)); exact BI100013.out)) : gb100013 ≠ gb112)); have n10_ := Aside0.mk ((by rw [hg]; exact Nat.ne_of_gt (blk_lt (g := gb100013) (o := .stringIter a0 (x100014000_2 + 1 : Int).toNat) (by (with_reducible repeat (first | refine blk_drewN ?_ _ | refine blk_drew ?_ | refine blk_alloc ?_ _)); exact BI100013.out)) : gb112 ≠ gb100013)); clear HO_3; clear BI100008; clear BI100013; clear HB; have HO_3 := n0_; have BI100008 := n1_; have BI100013 := n2_; have HB := n3_; have BK112 := n4_; have GW112 := n5_; have GE112 := n6_; have NB100008_112 := n7_; have NB112_100008 := n8_; have NB100013_112 := n9_; have NB112_100013 := n10_; clear n0_ n1_ n2_ n3_ n4_ n5_ n6_ n7_ n8_ n9_ n10_; clear hb hbox hg; have hnb16 := NB112_100008.out; have hnc16 := NB100008_112.out; have hnb17 := NB112_100013.out; have hnc17 := NB100013_112.out; have hcz18_0 : w15.cell? ⟨gb112, 0, none⟩ = some (.int .i64 0) := (blk_cell BK112.out 0).trans rfl; have hcz18_1 : w15.cell? ⟨gb112, 1, none⟩ = some (.int .i64 0) := (blk_cell BK112.out 1).trans rfl; have hfz18_0 := blk_frozen BK112.out 0; have hfz18_1 := blk_frozen BK112.out 1) | ((with_reducible refine gate_callee (f := 74) rfl ?_); refine goesL_ (some 22) rfl rfl Try.func74 (by kernel_rfl) rfl #[.string a0, .agg #[.int .i64 x100009000_1, .int .i64 x100014000_2]] rfl (by (try simp only [List.map_toArray, List.map_cons, List.map_nil]); first | done | rfl | (simp only [List.length_drop, List.length_take]; rfl)) ?_; (with_reducible refine (spec_ciCan.calls k2 a0 x100009000_1 x100014000_2 true _ A11.out).mono ?_); rintro e w19 ⟨rfl, hb⟩; refine ⟨_, rfl, ?_⟩; have n0_ := Aside0.mk (Kd.R_below (by (with_reducible repeat (first | apply Kd.R_alloc | apply Kd.R_drewN | apply Kd.R_drew)); exact (Kd.R_mono (Kd.R_far (p := ⟨gb112, 1, none⟩) (Kd.R_far (p := ⟨gb112, 0, none⟩) (Kd.R_mono HO_3.out (fun k_ hk => (⟨hk, hk.2⟩ : _ ∧ k_ ≠ gb112))) (fun _ hk => hk.2) (.int .i64 x100009000_1)) (fun _ hk => hk.2) (.int .i64 x100014000_2)) (fun _ h_ => h_.1))) hb); have n1_ := Aside0.mk (blk_below (g := gb100008) (o := .stringIter a0 ((x100009000_1 + 1) : Int).toNat) (by (with_reducible repeat (first | refine blk_drewN ?_ _ | refine blk_drew ?_ | refine blk_alloc ?_ _)); refine Go.Proofs.YtpelhinjoambfaaXW.blk_farO ?_ NB100008_112.out _; (with_reducible repeat (first | refine blk_drewN ?_ _ | refine blk_drew ?_ | refine blk_alloc ?_ _)); refine Go.Proofs.YtpelhinjoambfaaXW.blk_farO ?_ NB100008_112.out _; (with_reducible repeat (first | refine blk_drewN ?_ _ | refine blk_drew ?_ | refine blk_alloc ?_ _)); exact BI100008.out) hb); have n2_ := Aside0.mk (blk_below (g := gb100013) (o := .stringIter a0 (x100014000_2 + 1 : Int).toNat) (by (with_reducible repeat (first | refine blk_drewN ?_ _ | refine blk_drew ?_ | refine blk_alloc ?_ _)); refine Go.Proofs.YtpelhinjoambfaaXW.blk_farO ?_ NB100013_112.out _; (with_reducible repeat (first | refine blk_drewN ?_ _ | refine blk_drew ?_ | refine blk_alloc ?_ _)); refine Go.Proofs.YtpelhinjoambfaaXW.blk_farO ?_ NB100013_112.out _; (with_reducible repeat (first | refine blk_drewN ?_ _ | refine blk_drew ?_ | refine blk_alloc ?_ _)); exact BI100013.out) hb); have n3_ := Aside0.mk (blk_below (g := gb112) (o := .cells #[.int .i64 x100009000_1, .int .i64 x100014000_2] 58 (0, 0)) (by (with_reducible repeat (first | refine blk_drewN ?_ _ | refine blk_drew ?_ | refine blk_alloc ?_ _)); refine blk_put (cs := #[.int .i64 x100009000_1, .int .i64 0]) ?_ 1 _ rfl; (with_reducible repeat (first | refine blk_drewN ?_ _ | refine blk_drew ?_ | refine blk_alloc ?_ _)); refine blk_put (cs := #[.int .i64 0, .int .i64 0]) ?_ 0 _ rfl; (with_reducible repeat (first | refine blk_drewN ?_ _ | refine blk_drew ?_ | refine blk_alloc ?_ _)); exact BK112.out) hb); have n4_ := Aside0.mk (below_step (by repeat (first | (with_reducible first | exact HB.out | apply below_alloc | apply pw_below_drewN | apply below_drew1 | refine below_set ?_ GE100008.out | refine below_set ?_ GE100013.out | refine below_set ?_ GE112.out) | exact HB.out)) hb); clear HO_3; clear BI100008; clear BI100013; clear BK112; clear HB; have HO_3 := n0_; have BI100008 := n1_; have BI100013 := n2_; have BK112 := n3_; have HB := n4_; clear n0_ n1_ n2_ n3_ n4_; (try clear hb); (try clear hb2); (try clear hk); (try clear hi); have hcz20_0 : w19.cell? ⟨gb112, 0, none⟩ = some (.int .i64 x100009000_1) := (blk_cell BK112.out 0).trans rfl; have hcz20_1 : w19.cell? ⟨gb112, 1, none⟩ = some (.int .i64 x100014000_2) := (blk_cell BK112.out 1).trans rfl; have hfz20_0 := blk_frozen BK112.out 0; have hfz20_1 := blk_frozen BK112.out 1) | ((with_reducible refine gate_builtin (b := .append) (xs := #[.tmp 23, .tmp 25]) rfl ?_); at_builtin; refine Kd.R_append k58 (w0 := w) w.heap.size rfl (.tmp 23) (.tmp 25) 47 58 (.agg #[(.int .i64 0), (.int .i64 0)]) 16 rfl Try.underlying47 info58 rfl (by decide) (by omega) u3 x3_2 (⟨x100009000_1, x100014000_2⟩ : S58) [.int .i64 x100009000_1, .int .i64 x100014000_2] (fun k_ => k_ ≠ gb112) (fun _ => False) rfl rfl ?aP (fun _ hk => hk.elim) ?aF ?aO ?aB ?aS ?aL ?_; (case aP => exact k58_mkM _ _ _ (⟨x100009000_1, x100014000_2⟩ : S58)); (case aB => exact (by repeat (first | (with_reducible first | exact HB.out | apply below_alloc | apply pw_below_drewN | apply below_drew1 | refine below_set ?_ GE100008.out | refine below_set ?_ GE100013.out | refine below_set ?_ GE112.out) | exact HB.out))); (case aF => exact (fun k_ hk => Kd.freshB (g := gb112) (o := .cells #[.int .i64 x100009000_1, .int .i64 x100014000_2] 58 (0, 0)) (by (with_reducible repeat (first | refine blk_drewN ?_ _ | refine blk_drew ?_ | refine blk_alloc ?_ _)); exact BK112.out) k_ hk)); (case aO => exact (by (with_reducible repeat (first | apply Kd.R_alloc | apply Kd.R_drewN | apply Kd.R_drew)); exact Kd.R_mono HO_3.out (fun _ hk => hk.2))); (case aS => exact (below_size (by repeat (first | (with_reducible first | exact HB.out | apply below_alloc | apply pw_below_drewN | apply below_drew1 | refine below_set ?_ GE100008.out | refine below_set ?_ GE100013.out | refine below_set ?_ GE112.out) | exact HB.out)))); (case aL => have := LMc13.out; omega); intro v115 w21 ho hb hg hat; rw [← Ny114.out] at ho; have n0_ := Aside0.mk (blk_grown (g := gb100008) (o := .stringIter a0 ((x100009000_1 + 1) : Int).toNat) (by (with_reducible repeat (first | refine blk_drewN ?_ _ | refine blk_drew ?_ | refine blk_alloc ?_ _)); exact BI100008.out) hg (Go.Proofs.YtpelhinjoambfaaXW.R_neI HO_3.out BI100008.out)); have n1_ := Aside0.mk (blk_grown (g := gb100013) (o := .stringIter a0 (x100014000_2 + 1 : Int).toNat) (by (with_reducible repeat (first | refine blk_drewN ?_ _ | refine blk_drew ?_ | refine blk_alloc ?_ _)); exact BI100013.out) hg (Go.Proofs.YtpelhinjoambfaaXW.R_neI HO_3.out BI100013.out)); have n2_ := Aside0.mk (blk_grown (g := gb112) (o := .cells #[.int .i64 x100009000_1, .int .i64 x100014000_2] 58 (0, 0)) (by (with_reducible repeat (first | refine blk_drewN ?_ _ | refine blk_drew ?_ | refine blk_alloc ?_ _)); exact BK112.out) hg (Kd.R_away HO_3.out (fun _ hk => hk.2))); have n3_ := Aside0.mk (hb); have n4_ := Aside0.mk (ho); clear BI100008; clear BI100013; clear BK112; clear HB; clear HO_3; have BI100008 := n0_; have BI100013 := n1_; have BK112 := n2_; have HB := n3_; have HO116 := n4_; clear n0_ n1_ n2_ n3_ n4_; clear ho hb hg hat))
                          go_roundg k2
                          case measure => have := HK1.out; have := HK2.out; omega
                          case rel => exact ⟨(y114), (x100014000_2 + 1), H', ⟨by have := HK1.out; have := HK2.out; omega⟩, ⟨by (with_reducible repeat (first | apply Kd.R_alloc | apply Kd.R_drewN | apply Kd.R_drew)); exact Kd.R_mono HO116.out (fun _ hk => trivial)⟩, ⟨by (with_reducible repeat (first | refine blk_drewN ?_ _ | refine blk_drew ?_ | refine blk_alloc ?_ _)); exact BI100008.out⟩, ⟨by (with_reducible repeat (first | refine blk_drewN ?_ _ | refine blk_drew ?_ | refine blk_alloc ?_ _)); exact BI100013.out⟩, ⟨by repeat (first | (with_reducible first | exact HB.out | apply below_alloc | apply pw_below_drewN | apply below_drew1 | refine below_set ?_ GE100008.out | refine below_set ?_ GE100013.out | refine below_set ?_ GE112.out) | exact HB.out)⟩⟩
                        · rw [if_neg c13] at H
                          exact absurd H (by simp)
                      · replace c12 := Bool.eq_false_iff.mpr c12
                        subst c12
                        have H1 : (spec_ciMoves.l1 k2 a0 x3_2 x100009000_1 (x100009000_1 + 1) a0 (x100014000_2 + 1) a0) = some r := by rw [if_neg (show ¬ (false = true) by decide)] at H; exact H
                        clear H
                        have H := H1
                        clear H1
                        have H' := Aside0.mk H
                        clear H
                        go_wp2_with (first | ((with_reducible refine gate_dst (N := 14) rfl ?_); refine Go.Proofs.YtpelhinjoambfaaXW.next_step ?hg (N := 14) ?hd (g := gb100013) (s := a0) (p := x100014000_2) (by (with_reducible repeat (first | refine blk_drewN ?_ _ | refine blk_drew ?_ | refine blk_alloc ?_ _)); exact BI100013.out) (of_decide_eq_true (by first | (with_reducible assumption) | assumption)) (of_decide_eq_true (by first | (with_reducible assumption) | assumption)) (of_decide_eq_true (by first | (with_reducible assumption) | assumption)) ?hr ?_; (case hd => rfl); (case hg => rfl); (case hr => intro bq hnx; first | (go_simp; done) | (go_simp; rfl)); intro w22 hit hkp hbl; have n0_ := Aside0.mk (Go.Proofs.YtpelhinjoambfaaXW.R_iter (by (with_reducible repeat (first | apply Kd.R_alloc | apply Kd.R_drewN | apply Kd.R_drew)); exact HO_3.out) (by (with_reducible repeat (first | refine blk_drewN ?_ _ | refine blk_drew ?_ | refine blk_alloc ?_ _)); exact BI100013.out) hkp); have n1_ := Aside0.mk (blk_kept (by (with_reducible repeat (first | refine blk_drewN ?_ _ | refine blk_drew ?_ | refine blk_alloc ?_ _)); exact BI100008.out) hkp NB100008_100013.out); have n2_ := Aside0.mk (hit); have n3_ := Aside0.mk (hbl _ _ (by repeat (first | (with_reducible first | exact HB.out | apply below_alloc | apply pw_below_drewN | apply below_drew1 | refine below_set ?_ GE100008.out | refine below_set ?_ GE100013.out) | exact HB.out)) GE100013.out); clear HO_3; clear BI100008; clear BI100013; clear HB; have HO_3 := n0_; have BI100008 := n1_; have BI100013 := n2_; have HB := n3_; clear n0_ n1_ n2_ n3_; clear hit hkp hbl) | ((with_reducible refine gate_dst (N := 6) rfl ?_); refine box_event ?hg (N := 6) ?hd (cs := #[.int .i64 0, .int .i64 0]) (t := 58) ?hr ?_; (case hd => rfl); (case hg => rfl); (case hr => first | (go_simp; done) | (go_simp; rfl)); intro gb112 hg w23 hbox hb; have n0_ := Aside0.mk (Kd.R_below (Kd.R_elderB (by (with_reducible repeat (first | apply Kd.R_alloc | apply Kd.R_drewN | apply Kd.R_drew)); exact HO_3.out) gb112 (Nat.le_of_eq hg.symm)) hb); have n1_ := Aside0.mk (blk_below (g := gb100008) (o := .stringIter a0 ((x100009000_1 + 1) : Int).toNat) (by (with_reducible repeat (first | refine blk_drewN ?_ _ | refine blk_drew ?_ | refine blk_alloc ?_ _)); exact BI100008.out) hb); have n2_ := Aside0.mk (blk_below (g := gb100013) (o := .stringIter a0 (x100014000_2 + 1 : Int).toNat) (by (with_reducible repeat (first | refine blk_drewN ?_ _ | refine blk_drew ?_ | refine blk_alloc ?_ _)); exact BI100013.out) hb); have n3_ := Aside0.mk (below_step (by repeat (first | (with_reducible first | exact HB.out | apply below_alloc | apply pw_below_drewN | apply below_drew1 | refine below_set ?_ GE100008.out | refine below_set ?_ GE100013.out) | exact HB.out)) hb); have n4_ := Aside0.mk (hbox); have n5_ := Aside0.mk ((by rw [hg]; exact (below_size (by repeat (first | (with_reducible first | exact HB.out | apply below_alloc | apply pw_below_drewN | apply below_drew1 | refine below_set ?_ GE100008.out | refine below_set ?_ GE100013.out) | exact HB.out))) : w.heap.size ≤ gb112)); have n6_ := Aside0.mk ((by rw [hg]; exact (below_size (by repeat (first | (with_reducible first | exact HB.out | apply below_alloc | apply pw_below_drewN | apply below_drew1 | refine below_set ?_ GE100008.out | refine below_set ?_ GE100013.out) | exact HB.out))) : w.heap.size ≤ gb112)); have n7_ := Aside0.mk ((by rw [hg]; exact Nat.ne_of_lt (blk_lt (g := gb100008) (o := .stringIter a0 ((x100009000_1 + 1) : Int).toNat) (by (with_reducible repeat (first | refine blk_drewN ?_ _ | refine blk_drew ?_ | refine blk_alloc ?_ _)); exact BI100008.out)) : gb100008 ≠ gb112)); have n8_ := Aside0.mk ((by rw [hg]; exact Nat.ne_of_gt (blk_lt (g := gb100008) (o := .stringIter a0 ((x100009000_1 + 1) : Int).toNat) (by (with_reducible repeat (first | refine blk_drewN ?_ _ | refine blk_drew ?_ | refine blk_alloc ?_ _)); exact BI100008.out)) : gb112 ≠ gb100008)); have n9_ := Aside0.mk ((by rw [hg]; exact Nat.ne_of_lt (blk_lt (g := gb100013) (o := .stringIter a0 (x100014000_2 + 1 : Int).toNat) (by (with_reducible repeat (first | refine blk_drewN ?_ _ | refine blk_drew ?_ | refine blk_alloc ?_ _)); exact BI100013.out)) : gb100013 ≠ gb112)); have n10_ := Aside0.mk ((by rw [hg]; exact Nat.ne_of_gt (blk_lt (g := gb100013) (o := .stringIter a0 (x100014000_2 + 1 : Int).toNat) (by (with_reducible repeat (first | refine blk_drewN ?_ _ | refine blk_drew ?_ | refine blk_alloc ?_ _)); exact BI100013.out)) : gb112 ≠ gb100013)); clear HO_3; clear BI100008; clear BI100013; clear HB; have HO_3 := n0_; have BI100008 := n1_; have BI100013 := n2_; have HB := n3_; have BK112 := n4_; have GW112 := n5_; have GE112 := n6_; have NB100008_112 := n7_; have NB112_100008 := n8_; have NB100013_112 := n9_; have NB112_100013 := n10_; clear n0_ n1_ n2_ n3_ n4_ n5_ n6_ n7_ n8_ n9_ n10_; clear hb hbox hg; have hnb24 := NB112_100008.out; have hnc24 := NB100008_112.out; have hnb25 := NB112_100013.out; have hnc25 := NB100013_112.out; have hcz26_0 : w23.cell? ⟨gb112, 0, none⟩ = some (.int .i64 0) := (blk_cell BK112.out 0).trans rfl; have hcz26_1 : w23.cell? ⟨gb112, 1, none⟩ = some (.int .i64 0) := (blk_cell BK112.out 1).trans rfl; have hfz26_0 := blk_frozen BK112.out 0; have hfz26_1 := blk_frozen BK112.out 1) | ((with_reducible refine gate_callee (f := 74) rfl ?_); refine goesL_ (some 22) rfl rfl Try.func74 (by kernel_rfl) rfl #[.string a0, .agg #[.int .i64 x100009000_1, .int .i64 x100014000_2]] rfl (by (try simp only [List.map_toArray, List.map_cons, List.map_nil]); first | done | rfl | (simp only [List.length_drop, List.length_take]; rfl)) ?_; (with_reducible refine (spec_ciCan.calls k2 a0 x100009000_1 x100014000_2 false _ A11.out).mono ?_); rintro e w27 ⟨rfl, hb⟩; refine ⟨_, rfl, ?_⟩; have n0_ := Aside0.mk (Kd.R_below (by (with_reducible repeat (first | apply Kd.R_alloc | apply Kd.R_drewN | apply Kd.R_drew)); exact (Kd.R_mono (Kd.R_far (p := ⟨gb112, 1, none⟩) (Kd.R_far (p := ⟨gb112, 0, none⟩) (Kd.R_mono HO_3.out (fun k_ hk => (⟨hk, hk.2⟩ : _ ∧ k_ ≠ gb112))) (fun _ hk => hk.2) (.int .i64 x100009000_1)) (fun _ hk => hk.2) (.int .i64 x100014000_2)) (fun _ h_ => h_.1))) hb); have n1_ := Aside0.mk (blk_below (g := gb100008) (o := .stringIter a0 ((x100009000_1 + 1) : Int).toNat) (by (with_reducible repeat (first | refine blk_drewN ?_ _ | refine blk_drew ?_ | refine blk_alloc ?_ _)); refine Go.Proofs.YtpelhinjoambfaaXW.blk_farO ?_ NB100008_112.out _; (with_reducible repeat (first | refine blk_drewN ?_ _ | refine blk_drew ?_ | refine blk_alloc ?_ _)); refine Go.Proofs.YtpelhinjoambfaaXW.blk_farO ?_ NB100008_112.out _; (with_reducible repeat (first | refine blk_drewN ?_ _ | refine blk_drew ?_ | refine blk_alloc ?_ _)); exact BI100008.out) hb); have n2_ := Aside0.mk (blk_below (g := gb100013) (o := .stringIter a0 (x100014000_2 + 1 : Int).toNat) (by (with_reducible repeat (first | refine blk_drewN ?_ _ | refine blk_drew ?_ | refine blk_alloc ?_ _)); refine Go.Proofs.YtpelhinjoambfaaXW.blk_farO ?_ NB100013_112.out _; (with_reducible repeat (first | refine blk_drewN ?_ _ | refine blk_drew ?_ | refine blk_alloc ?_ _)); refine Go.Proofs.YtpelhinjoambfaaXW.blk_farO ?_ NB100013_112.out _; (with_reducible repeat (first | refine blk_drewN ?_ _ | refine blk_drew ?_ | refine blk_alloc ?_ _)); exact BI100013.out) hb); have n3_ := Aside0.mk (blk_below (g := gb112) (o := .cells #[.int .i64 x100009000_1, .int .i64 x100014000_2] 58 (0, 0)) (by (with_reducible repeat (first | refine blk_drewN ?_ _ | refine blk_drew ?_ | refine blk_alloc ?_ _)); refine blk_put (cs := #[.int .i64 x100009000_1, .int .i64 0]) ?_ 1 _ rfl; (with_reducible repeat (first | refine blk_drewN ?_ _ | refine blk_drew ?_ | refine blk_alloc ?_ _)); refine blk_put (cs := #[.int .i64 0, .int .i64 0]) ?_ 0 _ rfl; (with_reducible repeat (first | refine blk_drewN ?_ _ | refine blk_drew ?_ | refine blk_alloc ?_ _)); exact BK112.out) hb); have n4_ := Aside0.mk (below_step (by repeat (first | (with_reducible first | exact HB.out | apply below_alloc | apply pw_below_drewN | apply below_drew1 | refine below_set ?_ GE100008.out | refine below_set ?_ GE100013.out | refine below_set ?_ GE112.out) | exact HB.out)) hb); clear HO_3; clear BI100008; clear BI100013; clear BK112; clear HB; have HO_3 := n0_; have BI100008 := n1_; have BI100013 := n2_; have BK112 := n3_; have HB := n4_; clear n0_ n1_ n2_ n3_ n4_; (try clear hb); (try clear hb2); (try clear hk); (try clear hi)))
                        go_roundg k2
                        case measure => have := HK1.out; have := HK2.out; omega
                        case rel => exact ⟨(x3_2), (x100014000_2 + 1), H', ⟨by have := HK1.out; have := HK2.out; omega⟩, ⟨by (with_reducible repeat (first | apply Kd.R_alloc | apply Kd.R_drewN | apply Kd.R_drew)); exact Kd.R_mono HO_3.out (fun _ hk => trivial)⟩, ⟨by (with_reducible repeat (first | refine blk_drewN ?_ _ | refine blk_drew ?_ | refine blk_alloc ?_ _)); exact BI100008.out⟩, ⟨by (with_reducible repeat (first | refine blk_drewN ?_ _ | refine blk_drew ?_ | refine blk_alloc ?_ _)); exact BI100013.out⟩, ⟨by repeat (first | (with_reducible first | exact HB.out | apply below_alloc | apply pw_below_drewN | apply below_drew1 | refine below_set ?_ GE100008.out | refine below_set ?_ GE100013.out | refine below_set ?_ GE112.out) | exact HB.out)⟩⟩
                    · rw [if_neg c10] at H
                      exact absurd H (by simp)
                  · rw [if_neg c9] at H
                    have c9b0 : decide (x100014000_2 < (a0.size : Int)) = false := decide_eq_false c9
                    clear c9
                    have H' := Aside0.mk H
                    clear H
                    go_wp2_with (first | ((with_reducible refine gate_dst (N := 14) rfl ?_); refine Go.Proofs.YtpelhinjoambfaaXW.next_end ?hg (N := 14) ?hd (g := gb100013) (s := a0) (p := x100014000_2) (by (with_reducible repeat (first | refine blk_drewN ?_ _ | refine blk_drew ?_ | refine blk_alloc ?_ _)); exact BI100013.out) (of_decide_eq_true (by first | (with_reducible assumption) | assumption)) (of_decide_eq_false (by first | (with_reducible assumption) | assumption)) ?hr ?_; (case hd => rfl); (case hg => rfl); (case hr => intro hnx; first | (go_simp; done) | (go_simp; rfl))))
                    go_roundg k2
                    case measure => have := HK1.out; have := HK2.out; omega
                    case rel => exact ⟨(x3_2), ((x100009000_1 + 1)), H', ⟨by have := HK1.out; have := HK2.out; omega⟩, ⟨by (with_reducible repeat (first | apply Kd.R_alloc | apply Kd.R_drewN | apply Kd.R_drew)); exact HO_3.out⟩, ⟨by (with_reducible repeat (first | refine blk_drewN ?_ _ | refine blk_drew ?_ | refine blk_alloc ?_ _)); exact BI100008.out⟩, ⟨by repeat (first | (with_reducible first | exact HB.out | apply below_alloc | apply pw_below_drewN | apply below_drew1 | refine below_set ?_ GE100008.out | refine below_set ?_ GE100013.out) | exact HB.out)⟩⟩
                · rw [if_neg c8] at H
                  exact absurd H (by simp)
          · rw [if_neg c5] at H
            exact absurd H (by simp)
        · rw [if_neg c4] at H
          have c4b0 : decide (x100009000_1 < (a0.size : Int)) = false := decide_eq_false c4
          clear c4
          obtain rfl := Option.some.inj H
          go_wp2_with (first | ((with_reducible refine gate_dst (N := 9) rfl ?_); refine Go.Proofs.YtpelhinjoambfaaXW.next_end ?hg (N := 9) ?hd (g := gb100008) (s := a0) (p := x100009000_1) (by (with_reducible repeat (first | refine blk_drewN ?_ _ | refine blk_drew ?_ | refine blk_alloc ?_ _)); exact BI100008.out) (of_decide_eq_true (by first | (with_reducible assumption) | assumption)) (of_decide_eq_false (by first | (with_reducible assumption) | assumption)) ?hr ?_; (case hd => rfl); (case hg => rfl); (case hr => intro hnx; first | (go_simp; done) | (go_simp; rfl))))
          go_ret
          exact ⟨_, by first | rfl | (simp [errW_none, errW_some] <;> rfl) | (simp [*, errW_none, errW_some] <;> rfl), by (with_reducible repeat (first | apply Kd.R_alloc | apply Kd.R_drewN | apply Kd.R_drew)); exact HO_3.out, by repeat (first | (with_reducible first | exact HB.out | apply below_alloc | apply pw_below_drewN | apply below_drew1 | refine below_set ?_ GE100008.out) | exact HB.out)⟩
      · rw [if_neg c3] at H
        exact absurd H (by simp)

end Go.Proofs.Ytpelhinjoambfaa.XC
