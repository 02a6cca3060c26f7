/- The Lean functions that the Go functions of this seat compute, each with the proof that the Go function computes it, for every input (laws: FnExactRingReached). Conditions: none beyond those that each theorem names. Written by a program of this session over the kit's printer. -/
import Derived.Test.YtjgijaocinpkhaaDoorXZ0
import Derived.Test.YtjgijaocinpkhaaDoorXZ1
import Derived.Test.YtjgijaocinpkhaaDoorXZ2
import Derived.Test.YtjgijaocinpkhaaDoorXZ3
import Derived.Test.YtjgijaocinpkhaaDoorXZ4
namespace Go.Proofs.YtjgijaocinpkhaaDoor.XZ
open Go.RowKit Go.Proofs.YtjgijaocinpkhaaDoorW.PrintWords Go.Proofs.YtjgijaocinpkhaaDoorW.PrintLast Go.Proofs.YtjgijaocinpkhaaDoorW.PrintMore
attribute [local go_sem] max2_int min2_int max_two min_two max_three min_three max_four min_four   -- for this text's walks alone
attribute [local go_sem] Lib.run_min_strs Go.Proofs.YtjgijaocinpkhaaDoorXW.run_min2_strs Go.Proofs.YtjgijaocinpkhaaDoorXW.run_int_string
set_option linter.unusedVariables false
set_option linter.unusedSimpArgs false

/-! ### spec_liMake: function 74 -/
def spec_liMake.f (a0 : ByteArray) (a1_0 : Int) (a1_1 : Int) : Option (ByteArray) := if 0 ≤ a1_0 then (if a1_0 ≤ (wrap64 (a1_0 + 1)) then (if (wrap64 (a1_0 + 1)) ≤ (a0.size : Int) then ((spec_liPut.f a0 a1_0 (⟨#[46]⟩ : ByteArray)).bind fun t155 => ((spec_liPut.f t155 a1_1 (a0.extract (a1_0 : Int).toNat ((wrap64 (a1_0 + 1)) : Int).toNat)).bind fun t156 => (some t156))) else (none)) else (none)) else (none)
set_option maxHeartbeats 8000000 in
set_option maxRecDepth 100000 in
theorem spec_liMake.calls (a0 : ByteArray) (a1_0 : Int) (a1_1 : Int) (r : ByteArray) (w : World) (h : spec_liMake.f a0 a1_0 a1_1 = some r) :
    Calls Tryd.prog 74 #[.string a0, .agg #[.int .i64 a1_0, .int .i64 a1_1]] w fun e w' => e = .returned (.string r) ∧ Below w.heap.size w w' := by
  have hu83 := Tryd.underlying83
  have HB := Aside0.mk (Below.refl w.heap.size w)
  have H : (if 0 ≤ a1_0 then (if a1_0 ≤ (wrap64 (a1_0 + 1)) then (if (wrap64 (a1_0 + 1)) ≤ (a0.size : Int) then ((spec_liPut.f a0 a1_0 (⟨#[46]⟩ : ByteArray)).bind fun t155 => ((spec_liPut.f t155 a1_1 (a0.extract (a1_0 : Int).toNat ((wrap64 (a1_0 + 1)) : Int).toNat)).bind fun t156 => (some t156))) else (none)) else (none)) else (none)) = some r := h
  clear h
  by_cases c3 : 0 ≤ a1_0
  · rw [if_pos c3] at H
    have c3b0 := eq_true c3
    have c3b1 : decide (0 ≤ a1_0) = true := decide_eq_true c3
    clear c3
    by_cases c4 : a1_0 ≤ (wrap64 (a1_0 + 1))
    · rw [if_pos c4] at H
      have c4b0 := eq_true c4
      have c4b1 : decide (a1_0 ≤ (wrap64 (a1_0 + 1))) = true := decide_eq_true c4
      by_cases c5 : (wrap64 (a1_0 + 1)) ≤ (a0.size : Int)
      · rw [if_pos c5] at H
        have c5b0 := eq_true c5
        have c5b1 : decide ((wrap64 (a1_0 + 1)) ≤ (a0.size : Int)) = true := decide_eq_true c5
        replace H := Option.bind_eq_some_iff.mp H
        obtain ⟨t155, A60, H⟩ := H
        replace H : ((spec_liPut.f t155 a1_1 (a0.extract (a1_0 : Int).toNat ((wrap64 (a1_0 + 1)) : Int).toNat)).bind fun t156 => (some t156)) = some r := H
        have A6 := Aside0.mk A60
        clear A60
        replace H := Option.bind_eq_some_iff.mp H
        obtain ⟨t156, A70, H⟩ := H
        replace H : (some t156) = some r := H
        have A7 := Aside0.mk A70
        clear A70
        obtain rfl := Option.some.inj H
        go_enter Tryd.func74, Tryd.ntmps74
        go_wp2_with (first | ((with_reducible refine gate_dst (N := 3) rfl ?_); refine box_event ?hg (N := 3) ?hd (cs := #[.int .i64 a1_0, .int .i64 a1_1]) (t := 83) ?hr ?_; (case hd => rfl); (case hg => rfl); (case hr => first | (go_simp; done) | (go_simp; rfl)); intro gb154 hg w8 hbox hb; have n0_ := Aside0.mk (below_step (by repeat (first | (with_reducible first | exact HB.out | apply below_alloc | apply pw_below_drewN | apply below_drew1) | exact HB.out)) hb); have n1_ := Aside0.mk (hbox); have n2_ := Aside0.mk ((by rw [hg]; exact (below_size (by repeat (first | (with_reducible first | exact HB.out | apply below_alloc | apply pw_below_drewN | apply below_drew1) | exact HB.out))) : w.heap.size ≤ gb154)); have n3_ := Aside0.mk ((by rw [hg]; exact (below_size (by repeat (first | (with_reducible first | exact HB.out | apply below_alloc | apply pw_below_drewN | apply below_drew1) | exact HB.out))) : w.heap.size ≤ gb154)); clear HB; have HB := n0_; have BK154 := n1_; have GW154 := n2_; have GE154 := n3_; clear n0_ n1_ n2_ n3_; clear hb hbox hg; have hcz9_0 : w8.cell? ⟨gb154, 0, none⟩ = some (.int .i64 a1_0) := (blk_cell BK154.out 0).trans rfl; have hcz9_1 : w8.cell? ⟨gb154, 1, none⟩ = some (.int .i64 a1_1) := (blk_cell BK154.out 1).trans rfl; have hfz9_0 := blk_frozen BK154.out 0; have hfz9_1 := blk_frozen BK154.out 1) | (go_at_call 98; (with_reducible refine (spec_liPut.calls a0 a1_0 (⟨#[46]⟩ : ByteArray) t155 _ A6.out).mono ?_); rintro e w' ⟨rfl, ⟨nd, rfl⟩⟩; (try first | exact ⟨rfl, _, World.drewN_drewN _ _ _⟩ | exact ⟨rfl, _, Eq.trans (World.drewN_drewN _ _ _) (congrArg (World.drewN _) (Nat.add_assoc _ _ _))⟩)) | (go_at_call 98; (try refine Go.Proofs.YtjgijaocinpkhaaDoorXW.calls_args64 (by simp only [Go.Proofs.YtjgijaocinpkhaaDoorXW.wrapEq]; rfl) ?_); (with_reducible refine (spec_liPut.calls t155 a1_1 (a0.extract (a1_0 : Int).toNat ((wrap64 (a1_0 + 1)) : Int).toNat) t156 _ A7.out).mono ?_); rintro e w' ⟨rfl, ⟨nd, rfl⟩⟩; (try first | exact ⟨rfl, _, World.drewN_drewN _ _ _⟩ | exact ⟨rfl, _, Eq.trans (World.drewN_drewN _ _ _) (congrArg (World.drewN _) (Nat.add_assoc _ _ _))⟩)))
        repeat (go_quiet (first | ((with_reducible refine gate_dst (N := 3) rfl ?_); refine box_event ?hg (N := 3) ?hd (cs := #[.int .i64 a1_0, .int .i64 a1_1]) (t := 83) ?hr ?_; (case hd => rfl); (case hg => rfl); (case hr => first | (go_simp; done) | (go_simp; rfl)); intro gb154 hg w8 hbox hb; have n0_ := Aside0.mk (below_step (by repeat (first | (with_reducible first | exact HB.out | apply below_alloc | apply pw_below_drewN | apply below_drew1) | exact HB.out)) hb); have n1_ := Aside0.mk (hbox); have n2_ := Aside0.mk ((by rw [hg]; exact (below_size (by repeat (first | (with_reducible first | exact HB.out | apply below_alloc | apply pw_below_drewN | apply below_drew1) | exact HB.out))) : w.heap.size ≤ gb154)); have n3_ := Aside0.mk ((by rw [hg]; exact (below_size (by repeat (first | (with_reducible first | exact HB.out | apply below_alloc | apply pw_below_drewN | apply below_drew1) | exact HB.out))) : w.heap.size ≤ gb154)); clear HB; have HB := n0_; have BK154 := n1_; have GW154 := n2_; have GE154 := n3_; clear n0_ n1_ n2_ n3_; clear hb hbox hg; have hcz9_0 : w8.cell? ⟨gb154, 0, none⟩ = some (.int .i64 a1_0) := (blk_cell BK154.out 0).trans rfl; have hcz9_1 : w8.cell? ⟨gb154, 1, none⟩ = some (.int .i64 a1_1) := (blk_cell BK154.out 1).trans rfl; have hfz9_0 := blk_frozen BK154.out 0; have hfz9_1 := blk_frozen BK154.out 1) | (go_at_call 98; (with_reducible refine (spec_liPut.calls a0 a1_0 (⟨#[46]⟩ : ByteArray) t155 _ A6.out).mono ?_); rintro e w' ⟨rfl, ⟨nd, rfl⟩⟩; (try first | exact ⟨rfl, _, World.drewN_drewN _ _ _⟩ | exact ⟨rfl, _, Eq.trans (World.drewN_drewN _ _ _) (congrArg (World.drewN _) (Nat.add_assoc _ _ _))⟩)) | (go_at_call 98; (try refine Go.Proofs.YtjgijaocinpkhaaDoorXW.calls_args64 (by simp only [Go.Proofs.YtjgijaocinpkhaaDoorXW.wrapEq]; rfl) ?_); (with_reducible refine (spec_liPut.calls t155 a1_1 (a0.extract (a1_0 : Int).toNat ((wrap64 (a1_0 + 1)) : Int).toNat) t156 _ A7.out).mono ?_); rintro e w' ⟨rfl, ⟨nd, rfl⟩⟩; (try first | exact ⟨rfl, _, World.drewN_drewN _ _ _⟩ | exact ⟨rfl, _, Eq.trans (World.drewN_drewN _ _ _) (congrArg (World.drewN _) (Nat.add_assoc _ _ _))⟩))); try go_wp2_with (first | ((with_reducible refine gate_dst (N := 3) rfl ?_); refine box_event ?hg (N := 3) ?hd (cs := #[.int .i64 a1_0, .int .i64 a1_1]) (t := 83) ?hr ?_; (case hd => rfl); (case hg => rfl); (case hr => first | (go_simp; done) | (go_simp; rfl)); intro gb154 hg w8 hbox hb; have n0_ := Aside0.mk (below_step (by repeat (first | (with_reducible first | exact HB.out | apply below_alloc | apply pw_below_drewN | apply below_drew1) | exact HB.out)) hb); have n1_ := Aside0.mk (hbox); have n2_ := Aside0.mk ((by rw [hg]; exact (below_size (by repeat (first | (with_reducible first | exact HB.out | apply below_alloc | apply pw_below_drewN | apply below_drew1) | exact HB.out))) : w.heap.size ≤ gb154)); have n3_ := Aside0.mk ((by rw [hg]; exact (below_size (by repeat (first | (with_reducible first | exact HB.out | apply below_alloc | apply pw_below_drewN | apply below_drew1) | exact HB.out))) : w.heap.size ≤ gb154)); clear HB; have HB := n0_; have BK154 := n1_; have GW154 := n2_; have GE154 := n3_; clear n0_ n1_ n2_ n3_; clear hb hbox hg; have hcz9_0 : w8.cell? ⟨gb154, 0, none⟩ = some (.int .i64 a1_0) := (blk_cell BK154.out 0).trans rfl; have hcz9_1 : w8.cell? ⟨gb154, 1, none⟩ = some (.int .i64 a1_1) := (blk_cell BK154.out 1).trans rfl; have hfz9_0 := blk_frozen BK154.out 0; have hfz9_1 := blk_frozen BK154.out 1) | (go_at_call 98; (with_reducible refine (spec_liPut.calls a0 a1_0 (⟨#[46]⟩ : ByteArray) t155 _ A6.out).mono ?_); rintro e w' ⟨rfl, ⟨nd, rfl⟩⟩; (try first | exact ⟨rfl, _, World.drewN_drewN _ _ _⟩ | exact ⟨rfl, _, Eq.trans (World.drewN_drewN _ _ _) (congrArg (World.drewN _) (Nat.add_assoc _ _ _))⟩)) | (go_at_call 98; (try refine Go.Proofs.YtjgijaocinpkhaaDoorXW.calls_args64 (by simp only [Go.Proofs.YtjgijaocinpkhaaDoorXW.wrapEq]; rfl) ?_); (with_reducible refine (spec_liPut.calls t155 a1_1 (a0.extract (a1_0 : Int).toNat ((wrap64 (a1_0 + 1)) : Int).toNat) t156 _ A7.out).mono ?_); rintro e w' ⟨rfl, ⟨nd, rfl⟩⟩; (try first | exact ⟨rfl, _, World.drewN_drewN _ _ _⟩ | exact ⟨rfl, _, Eq.trans (World.drewN_drewN _ _ _) (congrArg (World.drewN _) (Nat.add_assoc _ _ _))⟩))))
        go_ret
        exact ⟨by first | rfl | (simp [errW_none, errW_some] <;> rfl) | (simp [*, errW_none, errW_some] <;> rfl), by repeat (first | (with_reducible first | exact HB.out | apply below_alloc | apply pw_below_drewN | apply below_drew1 | refine below_set ?_ GE154.out) | exact HB.out)⟩
      · rw [if_neg c5] at H
        exact absurd H (by simp)
    · rw [if_neg c4] at H
      exact absurd H (by simp)
  · rw [if_neg c3] at H
    exact absurd H (by simp)

/-! ### spec_ciReach: function 48 (given) -/
section
open Go Go.RowKit Go.Lib Go.Proofs.YtjgijaocinpkhaaDoorW.PrintWords Go.Proofs.YtjgijaocinpkhaaDoorW.PrintLast Go.Proofs.YtjgijaocinpkhaaDoor.Pm
-- uses spec_ciGraph_find.walk, impl_pathsFrom.walk
/-- the texts behind the moves of one: their places; what is new is set down -/
def nextS (x : ByteArray) : List S83 → List ByteArray → List Int → Option (List ByteArray × List Int)
  | [], R, ns => some (R, ns)
  | m :: r, R, ns => (spec_liMake.f x m.f0 m.f1).bind fun y => if R.length < 900000 then nextS x r (addS y R) (ns ++ [((posS y R : Nat) : Int)]) else none
def reachC (M : ByteArray → Option (List S83)) : Nat → Nat → List ByteArray → List (List Int) → Option (List ByteArray × List (List Int))
  | 0, _, _, _ => none
  | k + 1, i, R, N => if i < R.length then ((M (rdOf ByteArray.empty R (i : Int))).bind fun ms => if ms.length ≤ 1000000 ∧ N.length < 1000000 then ((nextS (rdOf ByteArray.empty R (i : Int)) ms R []).bind fun q => reachC M k (i + 1) q.1 (N ++ [q.2])) else none) else some (R, N)
abbrev kRow : Kd (List Int) := Kd.slice 3 (Kd.int .i64)
def NoB (v : Value) : Nat → Prop := fun k => some k ≠ v.ownBlock
/-- the graph, in memory; the row under work is none of its rows -/
structure Gx (w0 w : World) (G : Nat) (v0 v1 vn : Value) (R : List ByteArray) (N : List (List Int)) (ns : List Int) : Prop where
  B : Below w0.heap.size w0 w
  p : w.heap[G]? = some (.cells #[v0, v1] 57 (0, 0))
  lt : w0.heap.size ≤ G
  r0 : Kd.R Kd.string 9 w w0.heap.size T_ v0 R
  r1 : Kd.R kRow 65 w w0.heap.size (NoB vn) v1 N
  rn : Kd.R (Kd.int .i64) 3 w w0.heap.size T_ vn ns
theorem Gx.up {w0 w w1 : World} {G : Nat} {v0 v1 vn : Value} {R : List ByteArray} {N : List (List Int)} {ns : List Int} (h : Gx w0 w G v0 v1 vn R N ns) (hb : Below w.heap.size w w1) : Gx w0 w1 G v0 v1 vn R N ns :=
  ⟨below_step h.B hb, blk_below h.p hb, h.lt, Kd.R_below h.r0 hb, Kd.R_below h.r1 hb, Kd.R_below h.rn hb⟩
/-- a row by the types of its blocks -/
theorem R_typed {α : Type} {d : Kd α} {e base : Nat} {ok : Nat → Prop} {w w1 : World} {v : Value} {xs : List α} (h : d.R e w base ok v xs) (hm : ∀ k, ok k → k < w.heap.size → (∃ q, q ∈ e :: d.E ∧ ∃ cells, w.heap[k]? = some (.cells cells q (0, 0))) → w1.heap[k]? = w.heap[k]?) : d.R e w1 base ok v xs :=
  Kd.R_mono (Kd.R_move (Kd.R_bound h) (fun k hk => hm k hk.1 hk.2.2.1 hk.2.2.2)) (fun _ hk => hk.1)
theorem R_type {α : Type} {d : Kd α} {e base : Nat} {ok : Nat → Prop} {w : World} {v : Value} {xs : List α} (h : d.R e w base ok v xs) : ∀ k, v.ownBlock = some k → ∃ cells, w.heap[k]? = some (.cells cells e (0, 0)) := fun k hk => by
  obtain ⟨inner, ho⟩ := Kd.R_own h
  exact own_typed ho k hk
/-- behind find: another row that is of none of the two types -/
theorem FindK.row {α : Type} {d : Kd α} {e base base' G : Nat} {ok : Nat → Prop} {w w1 : World} {v v0 r' nx : Value} {xs : List α} {R : List ByteArray} {ok' : Nat → Prop} (h : d.R e w base ok v xs) (hk : FindK w w1 base' G v0 r') (hp : w.heap[G]? = some (.cells #[v0, nx] 57 (0, 0))) (h0 : Kd.string.R 9 w base' ok' v0 R) (h57 : 57 ∉ e :: d.E) (h9 : 9 ∉ e :: d.E) : d.R e w1 base ok v xs :=
  R_typed h (fun k _ hlt ⟨q, hq, cells, hc⟩ => hk.keep k hlt (fun e' => by
    rw [e', hp] at hc
    cases hc
    exact h57 hq) (fun e' => by
    obtain ⟨c2, hc2⟩ := R_type h0 k e'.symm
    rw [hc2] at hc
    cases hc
    exact h9 hq))
theorem Gx.find {w0 w w1 : World} {G : Nat} {v0 v1 vn r' : Value} {R R' : List ByteArray} {N : List (List Int)} {ns : List Int} (h : Gx w0 w G v0 v1 vn R N ns) (hk : FindK w w1 w0.heap.size G v0 r') (hp : w1.heap[G]? = some (.cells #[r', v1] 57 (0, 0))) (hr : Kd.R Kd.string 9 w1 w0.heap.size T_ r' R') : Gx w0 w1 G r' v1 vn R' N ns :=
  ⟨h.B.trans hk.bl, hp, h.lt, hr, FindK.row h.r1 hk h.p h.r0 (by decide) (by decide), FindK.row h.rn hk h.p h.r0 (by decide) (by decide)⟩
theorem addS_len (y : ByteArray) (R : List ByteArray) : R.length ≤ (addS y R).length ∧ (addS y R).length ≤ R.length + 1 := by
  unfold addS
  split <;> simp
theorem addS_rd (y : ByteArray) (R : List ByteArray) (i : Nat) (h : i < R.length) : rdOf ByteArray.empty (addS y R) (i : Int) = rdOf ByteArray.empty R (i : Int) := by
  rw [rdS_get h, rdS_get (Nat.lt_of_lt_of_le h (addS_len y R).1)]
  unfold addS
  split
  · rfl
  · exact List.getElem_append_left h
/-- a row by the types of its blocks, where one row of another type has grown -/
theorem R_gp {α : Type} {d : Kd α} {e base tr : Nat} {ok : Nat → Prop} {w w3 : World} {v : Value} {xs : List α} {row : Option Nat} (h : d.R e w base ok v xs) (hg : w.grownBy w3 row) (hrow : ∀ k, row = some k → ∃ cells, w.heap[k]? = some (.cells cells tr (0, 0))) (htr : tr ∉ e :: d.E) : d.R e w3 base ok v xs :=
  R_typed h (fun k _ hlt ⟨q, hq, cells, hc⟩ => hg.block k hlt (fun e' => by
    obtain ⟨c2, hc2⟩ := hrow k e'.symm
    rw [hc2] at hc
    cases hc
    exact htr hq))
theorem Gx.row {w0 w w9 : World} {G : Nat} {v0 v1 vn u9 : Value} {R : List ByteArray} {N : List (List Int)} {ns ns' : List Int} (h : Gx w0 w G v0 v1 vn R N ns) (ho : Kd.R (Kd.int .i64) 3 w9 w0.heap.size T_ u9 ns') (hb : Below w0.heap.size w0 w9) (hg : w.grownBy w9 vn.ownBlock) (hat : u9.ownBlock = vn.ownBlock ∨ ∃ b, u9.ownBlock = some b ∧ w.heap.size ≤ b) :
    Gx w0 w9 G v0 v1 u9 R N ns' :=
  ⟨hb, blk_grown h.p hg (Kd.R_ne h.rn h.p (by decide)), h.lt, R_gp h.r0 hg (fun k hk => R_type h.rn k hk) (by decide),
    Kd.R_mono (Kd.R_move (Kd.R_bound h.r1) (fun k hk => hg.block k hk.2.2.1 hk.1)) (fun k hk => by
      rcases hat with e | ⟨b, e, hb'⟩
      · unfold NoB
        rw [e]
        exact hk.1
      · unfold NoB
        rw [e]
        intro e2
        injection e2 with e2
        have := hk.2.2.1
        omega), ho⟩
theorem R_gs {α : Type} {d : Kd α} {e base G tr : Nat} {ok : Nat → Prop} {w w3 : World} {v : Value} {xs : List α} {cs : Array Value} {row : Option Nat} (h : d.R e w base ok v xs) (hg : w.grownBy w3 row) (hrow : ∀ k, row = some k → ∃ cells, w.heap[k]? = some (.cells cells tr (0, 0))) (hp : w.heap[G]? = some (.cells cs 57 (0, 0))) (h57 : 57 ∉ e :: d.E) (htr : tr ∉ e :: d.E) (j : Nat) (u : Value) : d.R e (w3.setCell ⟨G, j, none⟩ u) base ok v xs :=
  R_typed h (fun k _ hlt ⟨q, hq, cells, hc⟩ => (Below.heap_setCell w3 ⟨G, j, none⟩ u k (fun e' => by
    have e2 : k = G := e'
    rw [e2, hp] at hc
    cases hc
    exact h57 hq)).trans (hg.block k hlt (fun e' => by
    obtain ⟨c2, hc2⟩ := hrow k e'.symm
    rw [hc2] at hc
    cases hc
    exact htr hq)))
set_option maxHeartbeats 4000000 in
set_option maxRecDepth 1000000 in
theorem spec_ciReach.walk (KM K : Nat) (a : ByteArray) (RN : List ByteArray × List (List Int)) (w : World) (h : reachC (fun s => spec_ciMoves.f KM s) K 0 [a] [] = some RN) :
    Calls Tryd.prog 48 #[.string a] w fun e w' => ∃ G v0 v1, e = .returned (.pointer (some ⟨G, 0, none⟩)) ∧ Gx w w' G v0 v1 (.slice none 0 0) RN.1 RN.2 [] := by
  have HH := Lib.hid h
  clear h
  go_enter Tryd.func48, Tryd.ntmps48
  go_wp2_with fail
  have y0 : (w.alloc (.cells #[.string a] 9)).heap[w.heap.size]? = some (.cells #[.string a] 9 (0, 0)) := blk_new w _
  have z1 : (w.alloc (.cells #[.string a] 9)).heap.size = w.heap.size + 1 := by simp
  have q0 := blk_alloc y0 (.cells #[.slice (some ⟨w.heap.size, 0, none⟩) 1 1, .slice none 0 0] 57)
  have q1 : ((w.alloc (.cells #[.string a] 9)).alloc (.cells #[.slice (some ⟨w.heap.size, 0, none⟩) 1 1, .slice none 0 0] 57)).heap[w.heap.size + 1]? = some (.cells #[.slice (some ⟨w.heap.size, 0, none⟩) 1 1, .slice none 0 0] 57 (0, 0)) := (z1 ▸ blk_new _ _)
  have hB2 : Below w.heap.size w ((w.alloc (.cells #[.string a] 9)).alloc (.cells #[.slice (some ⟨w.heap.size, 0, none⟩) 1 1, .slice none 0 0] 57)) := below_alloc (below_alloc (Below.refl _ _) _) _
  have hP2 : Gx w ((w.alloc (.cells #[.string a] 9)).alloc (.cells #[.slice (some ⟨w.heap.size, 0, none⟩) 1 1, .slice none 0 0] 57)) (w.heap.size + 1) (.slice (some ⟨w.heap.size, 0, none⟩) 1 1) (.slice none 0 0) (.slice none 0 0) [a] [] [] :=
    ⟨hB2, q1, Nat.le_succ _, R_one Kd.string q0 (by omega) (fun _ => rfl), Kd.R_nil _ _ _ _ _, Kd.R_nil _ _ _ _ _⟩
  clear y0 z1 q0 q1 hB2
  generalize w.heap.size + 1 = G at *
  go_loopg [4] K (fun kq x4 wr => ∃ (i : Nat) (u0 u1 : Value) (R : List ByteArray) (N : List (List Int)), x4 = .int .i64 (i : Int) ∧ Aside0 (Gx w wr G u0 u1 (.slice none 0 0) R N []) ∧ Hid (reachC (fun s => spec_ciMoves.f KM s) kq i R N = some RN) ∧ i ≤ R.length ∧ 0 < R.length ∧ R.length ≤ 1000000)
  case atStart => exact ⟨0, _, _, [a], [], rfl, Aside0.mk hP2, HH, Nat.zero_le _, Nat.zero_lt_one, by simp⟩
  case round =>
    clear hP2 HH
    obtain ⟨i, u0, u1, R, N, rfl, HP, HO, hi, hR0, hRm⟩ := hrel
    have ho := HO.out
    have hP := HP.out
    obtain ⟨g0, c0, hu0⟩ := R_form hP.r0 hR0
    subst hu0
    have hc0 : wr.cell? ⟨G, 0, none⟩ = some (.slice (some ⟨g0, 0, none⟩) R.length c0) := (blk_cell hP.p 0).trans rfl
    have hpi : (0 : Int) ≤ (i : Int) := Int.natCast_nonneg _
    cases gk with
    | zero => cases ho
    | succ g' =>
      simp only [reachC] at ho
      by_cases hlt : i < R.length
      · have hdec : decide ((i : Int) < (R.length : Int)) = true := decide_eq_true (by omega)
        rw [if_pos hlt] at ho
        obtain ⟨x, hx5⟩ : ∃ x, rdOf ByteArray.empty R (i : Int) = x := ⟨_, rfl⟩
        rw [hx5] at ho
        obtain ⟨ms, hms, ho⟩ := Option.bind_eq_some_iff.mp ho
        by_cases hml : ms.length ≤ 1000000 ∧ N.length < 1000000
        case neg => rw [if_neg hml] at ho; cases ho
        rw [if_pos hml] at ho
        obtain ⟨q, hv, ho⟩ := Option.bind_eq_some_iff.mp ho
        have hcl := R_scell hP.r0 (i : Int) hpi (by omega)
        rw [Int.toNat_natCast, hx5] at hcl
        have HV := Lib.hid hv
        have HP1 := Lib.hid ho
        clear hv ho HO
        go_wp2_with (first
          | (go_at_call 70; refine (spec_ciMoves.calls KM x ms _ hms).mono ?_; rintro e1 W5 ⟨vms, rfl, hRms, hb5⟩; obtain ⟨Am, cm, hzm⟩ := Kd.R_slice hRms; subst hzm))
        have hP5 := hP.up hb5
        have hR5 : Kd.R k83 83 W5 w.heap.size T_ (.slice Am ms.length cm) ms := Kd.R_mono (Kd.R_lower hRms hP.B.size) (fun _ _ => trivial)
        clear hb5 hRms hcl hP HP hc0
        go_loopw [5, 30] (fun x5 x30 wq => ∃ (j : Nat) (q0 vn : Value) (R1 : List ByteArray) (ns : List Int), x5 = vn ∧ x30 = .int .i64 (j : Int) ∧ j ≤ ms.length ∧ ns.length = j ∧ Aside0 (Gx w wq G q0 u1 vn R1 N ns) ∧ Hid (nextS x (ms.drop j) R1 ns = some q) ∧ R.length ≤ R1.length ∧ rdOf ByteArray.empty R1 (i : Int) = x ∧ R1.length ≤ 1000000 ∧
            Aside0 (Kd.R k83 83 wq w.heap.size T_ (.slice Am ms.length cm) ms)) (fun _ x30 _ => ms.length - (RowKit.intOf x30).toNat)
        case atStart => exact ⟨0, _, _, R, [], rfl, rfl, Nat.zero_le _, rfl, Aside0.mk hP5, HV, Nat.le_refl _, hx5, hRm, Aside0.mk hR5⟩
        case round =>
          clear hP5 HV hR5 hx5
          obtain ⟨j, q0, vn, R1, ns, rfl, rfl, hj, hns, HQ, HV, hRR, hxx, hR1m, HR⟩ := hrel
          have hQ := HQ.out
          have hv := HV.out
          obtain ⟨g0', c0', hu0⟩ := R_form hQ.r0 (by omega)
          subst hu0
          by_cases hjl : j < ms.length
          · have hdec : decide ((j : Int) < (ms.length : Int)) = true := decide_eq_true (by omega)
            obtain ⟨gm, cm', hvm⟩ := R_form HR.out (by omega)
            injection hvm with hA _ hcm
            subst hA
            subst hcm
            obtain ⟨ad, ead, hx0, hx1⟩ := at_T83 (Kd.R_reads' HR.out).2.2 (j : Int) (by omega) (by omega)
            have hd : ms.drop j = rd_T83 ms (j : Int) :: ms.drop (j + 1) := by
              rw [List.drop_eq_getElem_cons hjl]
              unfold rd_T83
              rw [Int.toNat_natCast, List.getD_eq_getElem?_getD, List.getElem?_eq_getElem hjl]
              rfl
            rw [hd] at hv
            rw [Int.toNat_natCast] at hx0 hx1
            clear hd HV
            cases ead
            generalize rd_T83 ms (j : Int) = m at *
            obtain ⟨f, t⟩ := m
            replace hx0 : wr.cell? ⟨gm, j * 2, none⟩ = some (.int .i64 f) := by rw [Addr.add_lit, Nat.zero_add] at hx0; exact hx0
            replace hx1 : wr.cell? ⟨gm, j * 2 + 1, none⟩ = some (.int .i64 t) := by rw [Addr.add_lit, Nat.zero_add] at hx1; exact hx1
            simp only [nextS] at hv
            obtain ⟨y, hy, hv⟩ := Option.bind_eq_some_iff.mp hv
            by_cases h9 : R1.length < 900000
            case neg => rw [if_neg h9] at hv; cases hv
            rw [if_pos h9] at hv
            have HV := Lib.hid hv
            clear hv
            have hp0 : (0 : Int) ≤ (j : Int) := Int.natCast_nonneg _
            have hcl := R_scell hQ.r0 (i : Int) hpi (by omega)
            rw [Int.toNat_natCast, hxx] at hcl
            have hie : i < R1.length := by omega
            have hie0 : decide ((i : Int) < (R1.length : Int)) = true := decide_eq_true (by omega)
            go_wp2_with fail
            have hb4 : Below wr.heap.size wr (wr.alloc (.cells #[.int .i64 f, .int .i64 t] 83 (0, 0))).drew := below_drew1 (below_alloc (Below.refl _ _) _)
            have hbx : (wr.alloc (.cells #[.int .i64 f, .int .i64 t] 83 (0, 0))).drew.heap[wr.heap.size]? = some (.cells #[.int .i64 f, .int .i64 t] 83 (0, 0)) := blk_drew (blk_new wr _)
            have hQ4 := hQ.up hb4
            have hR4 := Kd.R_below HR.out hb4
            have hcl4 := (hb4.cell (World.block_lt_of_cell? wr _ hcl)).trans hcl
            clear hx0 hx1 HR hb4 hcl
            refine start_ (n := 15) (S := fun w' => w'.cell? ⟨G, 0, none⟩ = some (.slice (some ⟨g0', 0, none⟩) R1.length c0') ∧ w'.cell? ⟨g0', i, none⟩ = some (.string x) ∧ w'.cell? ⟨wr.heap.size, 0, none⟩ = some (.int .i64 f) ∧ w'.cell? ⟨wr.heap.size, 1, none⟩ = some (.int .i64 t)) (ds := [11, 12, 13]) #[false, false, false, false, false, false, false, false, false, false, false, false, false, false, false] (by kernel_rfl) rfl rfl ⟨(blk_cell hQ4.p 0).trans rfl, hcl4, (blk_cell hbx 0).trans rfl, (blk_cell hbx 1).trans rfl⟩ (fun hHeld => ?_)
            generalize (wr.alloc (.cells #[.int .i64 f, .int .i64 t] 83 (0, 0))).drew = W4 at *
            refine pure_ (i := 0) (N := some 34) (v := ?_) (a' := ?_) #[true, false, false, false, false, false, false, false, false, false, false, false, false, false, false] rfl rfl (by kernel_rfl) (fun _ _ _ h => h) (Or.inl ⟨by rfl, ?_⟩) ?_ ?_
            rotate_left
            · intro w'
              go_simp
              with_reducible rfl
            rotate_left
            · simp only [Act.put, List.setIfInBounds_toArray, List.set_cons_zero, List.set_cons_succ, i64_w, i32_w]
              rfl
            refine pure_ (i := 1) (N := some 35) (v := ?_) (a' := ?_) #[true, true, false, false, false, false, false, false, false, false, false, false, false, false, false] rfl rfl (by kernel_rfl) (fun _ _ _ h => h) (Or.inl ⟨by rfl, ?_⟩) ?_ ?_
            rotate_left
            · intro w'
              go_simp
              with_reducible rfl
            rotate_left
            · simp only [Act.put, List.setIfInBounds_toArray, List.set_cons_zero, List.set_cons_succ, i64_w, i32_w]
              rfl
            refine pure_ (i := 2) (N := some 36) (v := ?_) (a' := ?_) #[true, true, true, false, false, false, false, false, false, false, false, false, false, false, false] rfl rfl (by kernel_rfl) (fun _ _ _ h => h) (Or.inl ⟨by rfl, ?_⟩) ?_ ?_
            rotate_left
            · intro w'
              go_simp
              with_reducible rfl
            rotate_left
            · simp only [Act.put, List.setIfInBounds_toArray, List.set_cons_zero, List.set_cons_succ, i64_w, i32_w]
              rfl
            refine pure_ (i := 3) (N := some 37) (v := ?_) (a' := ?_) #[true, true, true, true, false, false, false, false, false, false, false, false, false, false, false] rfl rfl (by kernel_rfl) (fun _ _ _ h => h) (Or.inl ⟨by rfl, ?_⟩) ?_ ?_
            rotate_left
            · intro w'
              go_simp
              with_reducible rfl
            rotate_left
            · simp only [Act.put, List.setIfInBounds_toArray, List.set_cons_zero, List.set_cons_succ, i64_w, i32_w]
              rfl
            refine pure_ (i := 4) (N := some 38) (v := ?_) (a' := ?_) #[true, true, true, true, true, false, false, false, false, false, false, false, false, false, false] rfl rfl (by kernel_rfl) (fun _ _ _ h => h) (Or.inl ⟨by rfl, ?_⟩) ?_ ?_
            rotate_left
            · intro w'
              go_simp
              with_reducible rfl
            rotate_left
            · simp only [Act.put, List.setIfInBounds_toArray, List.set_cons_zero, List.set_cons_succ, i64_w, i32_w]
              rfl
            refine take_ (i := 5) (N := some 39) (v := ?_) (a' := ?_) #[true, true, true, true, true, true, false, false, false, false, false, false, false, false, false] rfl rfl (by kernel_rfl) (fun _ _ _ h => h) (Or.inl ⟨by rfl, ?_⟩) hHeld ?_ ?_
            rotate_left
            · rintro w' ⟨s0, s1, s2, s3⟩
              go_simp
              with_reducible rfl
            rotate_left
            · simp only [Act.put, List.setIfInBounds_toArray, List.set_cons_zero, List.set_cons_succ, i64_w, i32_w]
              rfl
            refine pure_ (i := 6) (N := some 40) (v := ?_) (a' := ?_) #[true, true, true, true, true, true, true, false, false, false, false, false, false, false, false] rfl rfl (by kernel_rfl) (fun _ _ _ h => h) (Or.inl ⟨by rfl, ?_⟩) ?_ ?_
            rotate_left
            · intro w'
              go_simp
              with_reducible rfl
            rotate_left
            · simp only [Act.put, List.setIfInBounds_toArray, List.set_cons_zero, List.set_cons_succ, i64_w, i32_w]
              rfl
            refine take_ (i := 7) (N := some 41) (v := ?_) (a' := ?_) #[true, true, true, true, true, true, true, true, false, false, false, false, false, false, false] rfl rfl (by kernel_rfl) (fun _ _ _ h => h) (Or.inl ⟨by rfl, ?_⟩) hHeld ?_ ?_
            rotate_left
            · rintro w' ⟨s0, s1, s2, s3⟩
              go_simp
              with_reducible rfl
            rotate_left
            · simp only [Act.put, List.setIfInBounds_toArray, List.set_cons_zero, List.set_cons_succ, i64_w, i32_w]
              rfl
            refine take_ (i := 8) (N := some 42) (v := ?_) (a' := ?_) #[true, true, true, true, true, true, true, true, true, false, false, false, false, false, false] rfl rfl (by kernel_rfl) (fun _ _ _ h => h) (Or.inl ⟨by rfl, ?_⟩) hHeld ?_ ?_
            rotate_left
            · rintro w' ⟨s0, s1, s2, s3⟩
              go_simp
              with_reducible rfl
            rotate_left
            · simp only [Act.put, List.setIfInBounds_toArray, List.set_cons_zero, List.set_cons_succ, i64_w, i32_w]
              rfl
            refine take_ (i := 9) (N := some 43) (v := ?_) (a' := ?_) #[true, true, true, true, true, true, true, true, true, true, false, false, false, false, false] rfl rfl (by kernel_rfl) (fun _ _ _ h => h) (Or.inl ⟨by rfl, ?_⟩) hHeld ?_ ?_
            rotate_left
            · rintro w' ⟨s0, s1, s2, s3⟩
              go_simp
              with_reducible rfl
            rotate_left
            · simp only [Act.put, List.setIfInBounds_toArray, List.set_cons_zero, List.set_cons_succ, i64_w, i32_w]
              rfl
            refine one_ (i := 10) (N := some 44) #[true, true, true, true, true, true, true, true, true, true, true, false, false, false, false] rfl rfl (by kernel_rfl) (by decide) (fun K hK => ?_)
            refine goes_ Tryd.func74 (by kernel_rfl) rfl #[.string x, .agg #[.int .i64 f, .int .i64 t]] (by rfl) rfl rfl (by (try simp only [List.map_toArray, List.map_cons, List.map_nil]); first | done | rfl) ?_
            with_reducible refine (spec_liMake.calls x f t y _ hy).mono ?_
            rintro e1 W5 ⟨rfl, hb5⟩
            refine ⟨_, rfl, ?_⟩
            have hQ5 := hQ4.up hb5
            have hR5 := Kd.R_below hR4 hb5
            have hbx5 := blk_below hbx hb5
            have hcl5 := (hb5.cell (World.block_lt_of_cell? W4 _ hcl4)).trans hcl4
            clear hQ4 hR4 hbx hcl4 hb5 hHeld hQ HQ
            refine hK.out _ _ ⟨(blk_cell hQ5.p 0).trans rfl, hcl5, (blk_cell hbx5 0).trans rfl, (blk_cell hbx5 1).trans rfl⟩ (fun hHeld => ?_)
            clear hK K
            refine norm_ (a' := ?_) ?_ ?_
            rotate_left
            · show Act.put _ (some 44) _ = _
              simp only [Act.put, List.setIfInBounds_toArray, List.set_cons_zero, List.set_cons_succ, i64_w, i32_w]
              rfl
            refine last_ (i := 11) (N := some 45) #[true, true, true, true, true, true, true, true, true, true, true, true, false, false, false] rfl rfl (by kernel_rfl) (by decide) (fun K hK => ?_)
            refine goes_ Tryd.func84 (by kernel_rfl) rfl #[.pointer (some ⟨G, 0, none⟩), .string y] (by rfl) rfl rfl (by (try simp only [List.map_toArray, List.map_cons, List.map_nil]); first | done | rfl) ?_
            with_reducible refine (spec_ciGraph_find.walk y R1 G w.heap.size g0' c0' u1 W5 hQ5.p (Kd.R_mono hQ5.r0 (fun _ _ => trivial)) hQ5.B.size hQ5.lt (by omega)).mono ?_
            rintro e1 W6 ⟨rfl, r6, hp6, hr6, hk6⟩
            refine ⟨_, rfl, ?_⟩
            have hQ6 := hQ5.find hk6 hp6 (Kd.R_mono hr6 (fun _ _ => trivial))
            have hR6 := FindK.row hR5 hk6 hQ5.p hQ5.r0 (by decide) (by decide)
            clear hQ5 hR5 hbx5 hcl5 hHeld hp6 hr6 hk6
            refine hK.out _ _ ?_
            clear hK K
            refine norm_ (a' := ?_) ?_ ?_
            rotate_left
            · show Act.put _ (some 45) _ = _
              simp only [Act.put, List.setIfInBounds_toArray, List.set_cons_zero, List.set_cons_succ, i64_w, i32_w]
              rfl
            obtain ⟨An, cn, hzn⟩ := Kd.R_slice hQ6.rn
            subst hzn
            refine last_ (i := 12) (N := some 46) #[true, true, true, true, true, true, true, true, true, true, true, true, true, false, false] rfl rfl (by kernel_rfl) (by decide) (fun K hK => ?_)
            refine value_ (by rfl) rfl (v := .slice (some ⟨W6.heap.size, 0, none⟩) 1 1) (w1 := W6.alloc (.cells #[.int .i64 ((posS y R1 : Nat) : Int)] 3 (0, 0))) ?_ ?_
            · first | (go_simp; done) | (go_simp; rfl)
            refine hK.out _ _ ?_
            clear hK K
            refine norm_ (a' := ?_) ?_ ?_
            rotate_left
            · show Act.put _ (some 46) _ = _
              simp only [Act.put, List.setIfInBounds_toArray, List.set_cons_zero, List.set_cons_succ, i64_w, i32_w]
              rfl
            have hpx : (0 : Int) ≤ ((posS y R1 : Nat) : Int) := Int.natCast_nonneg _
            refine last_ (i := 13) (N := some 47) #[true, true, true, true, true, true, true, true, true, true, true, true, true, true, false] rfl rfl (by kernel_rfl) (by decide) (fun K hK => ?_)
            refine Kd.R_append_step (Kd.int .i64) (w0 := w) w.heap.size (by rfl) (.tmp 34) (.tmp 46) 65 3 (.int .i64 0) 8 rfl Tryd.underlying65 (by kernel_rfl) rfl (by decide) (by decide) (.slice An ns.length cn) ns ((posS y R1 : Nat) : Int) [.int .i64 ((posS y R1 : Nat) : Int)] T_ (fun _ => False) (by rfl) (by rfl) rfl (fun _ h => h.elim) (fun _ _ => trivial) hQ6.rn hQ6.B hQ6.B.size (by omega) ?_
            intro u9 w9 ho9 hb9 hg9 hat9
            obtain ⟨A9, n9, k9, z9⟩ := R_any ho9
            subst z9
            refine hK.out _ _ ?_
            clear hK K
            refine norm_ (a' := ?_) ?_ ?_
            rotate_left
            · show Act.put _ (some 47) _ = _
              simp only [Act.put, List.setIfInBounds_toArray, List.set_cons_zero, List.set_cons_succ, i64_w, i32_w]
              rfl
            refine pure_ (i := 14) (N := some 5) (v := ?_) (a' := ?_) #[true, true, true, true, true, true, true, true, true, true, true, true, true, true, true] rfl rfl (by kernel_rfl) (fun _ _ _ h => h) (Or.inl ⟨by rfl, ?_⟩) ?_ ?_
            rotate_left
            · intro w'
              go_simp
              with_reducible rfl
            rotate_left
            · simp only [Act.put, List.setIfInBounds_toArray, List.set_cons_zero, List.set_cons_succ, i64_w, i32_w]
              rfl
            refine done_ (by kernel_rfl) ?_
            have hQ9 := hQ6.row ho9 hb9 hg9 hat9
            have hR9 : Kd.R k83 83 w9 w.heap.size T_ (.slice (some ⟨gm, 0, none⟩) ms.length cm) ms := R_gp hR6 hg9 (fun k hk => R_type hQ6.rn k hk) (by decide)
            clear hQ6 hR6 ho9 hb9 hg9 hat9
            go_wp2
            exact ⟨⟨j + 1, _, _, addS y R1, ns ++ [((posS y R1 : Nat) : Int)], rfl, rfl, by omega, by simp [hns], Aside0.mk hQ9, HV, Nat.le_trans hRR (addS_len y R1).1, (addS_rd y R1 i hie).trans hxx, Nat.le_trans (addS_len y R1).2 (by omega), Aside0.mk hR9⟩, by simp [RowKit.intOf]; omega⟩
          · have hdec : decide ((j : Int) < (ms.length : Int)) = false := decide_eq_false (by omega)
            rw [List.drop_of_length_le (by omega)] at hv
            simp only [nextS] at hv
            obtain rfl := Option.some.inj hv
            clear hv HV
            subst hns
            obtain ⟨An, cn, hzn⟩ := Kd.R_slice hQ.rn
            subst hzn
            obtain ⟨A1, n1, c1, hz1⟩ := R_any hQ.r1
            subst hz1
            have hc1 : wr.cell? ⟨G, 1, none⟩ = some (.slice A1 n1 c1) := (blk_cell hQ.p 1).trans rfl
            have hMn : kRow.M wr w.heap.size (fun k => (Value.slice An ns.length cn).ownBlock = some k) ns [.slice An ns.length cn] := ⟨_, rfl, Kd.R_flat flat_i hQ.rn (fun k hk _ => hk)⟩
            have hokp : ∀ k, (Value.slice An ns.length cn).ownBlock = some k → T_ k ∧ some k ≠ (Value.slice A1 n1 c1).ownBlock := fun k hk => ⟨trivial, fun e => by
              obtain ⟨c2, h2⟩ := R_type hQ.rn k hk
              obtain ⟨c3, h3⟩ := R_type hQ.r1 k e.symm
              rw [h2] at h3
              cases h3⟩
            have hO1 : kRow.R 65 wr w.heap.size T_ (.slice A1 n1 c1) N := Kd.R_mono hQ.r1 (fun _ _ => trivial)
            go_wp2_with (first
              | ((with_reducible refine gate_builtin (b := .append) (xs := #[.tmp 53, .tmp 55]) rfl ?_); at_builtin; refine Kd.R_append kRow (w0 := w) w.heap.size rfl (.tmp 53) (.tmp 55) 55 65 (.slice none 0 0) 24 rfl Tryd.underlying55 (by kernel_rfl) rfl (by decide) (by decide) (.slice A1 n1 c1) N ns [.slice An ns.length cn] T_ (fun k => (Value.slice An ns.length cn).ownBlock = some k) rfl rfl hMn hokp (fun _ _ => trivial) hO1 hQ.B hQ.B.size (by omega) ?_; intro u3 w3 ho3 hb3 hg3 hat3; obtain ⟨A3, n3, c3, hz3⟩ := R_any ho3; subst hz3; have hp3 := blk_grown hQ.p hg3 (Kd.R_ne hQ.r1 hQ.p (by decide)); have hc3 : w3.cell? ⟨G, 1, none⟩ = some (.slice A1 n1 c1) := (blk_cell hp3 1).trans rfl; have hf3 := blk_frozen hp3 1))
            have hQ4 : Gx w (w3.setCell ⟨G, 1, none⟩ (.slice A3 n3 c3)) G (.slice (some ⟨g0', 0, none⟩) R1.length c0') (.slice A3 n3 c3) (.slice none 0 0) R1 (N ++ [ns]) [] :=
              ⟨hb3.setCell (p := ⟨G, 1, none⟩) hQ.lt _, (blk_set hp3 1 _).trans rfl, hQ.lt, R_gs hQ.r0 hg3 (fun k hk => R_type hQ.r1 k hk) hQ.p (by decide) (by decide) 1 _, Kd.R_mono (Kd.R_set ho3 hp3 (by decide) 1 _) (fun k _ => by simp [NoB, Value.ownBlock]), Kd.R_nil _ _ _ _ _⟩
            go_roundg g'
            case measure => omega
            case rel => exact ⟨i + 1, _, _, R1, N ++ [ns], rfl, Aside0.mk hQ4, HP1, by omega, by omega, hR1m⟩
      · have hdec : decide ((i : Int) < (R.length : Int)) = false := decide_eq_false (by omega)
        rw [if_neg hlt] at ho
        obtain rfl := Option.some.inj ho
        clear ho HO
        go_wp2
        go_ret
        exact ⟨G, rfl, _, _, hP⟩
theorem posS_lt (y : ByteArray) (R : List ByteArray) : posS y R < (addS y R).length := by
  have h := pos_le y R
  unfold addS
  split
  · assumption
  · simp
    omega
theorem nextS_ok {x : ByteArray} : ∀ (ms : List S83) (R : List ByteArray) (ns : List Int) (q : List ByteArray × List Int), nextS x ms R ns = some q → R.length ≤ 1000000 → (∀ k ∈ ns, 0 ≤ k ∧ k < (R.length : Int)) →
    R.length ≤ q.1.length ∧ q.1.length ≤ 1000000 ∧ q.2.length = ns.length + ms.length ∧ ∀ k ∈ q.2, 0 ≤ k ∧ k < (q.1.length : Int)
  | [], R, ns, q, h, hR, hn => by
    rw [nextS] at h
    cases h
    exact ⟨Nat.le_refl _, hR, rfl, hn⟩
  | m :: r, R, ns, q, h, hR, hn => by
    rw [nextS] at h
    obtain ⟨y, hy, h⟩ := Option.bind_eq_some_iff.mp h
    split at h
    case isFalse => cases h
    rename_i hl
    have hlen := addS_len y R
    have hp := posS_lt y R
    obtain ⟨h1, h2, h3, h4⟩ := nextS_ok r _ _ q h (by omega) (fun k hk => by
      rcases List.mem_append.1 hk with hk | hk
      · have := hn k hk
        omega
      · rw [List.mem_singleton] at hk
        omega)
    refine ⟨by omega, h2, ?_, h4⟩
    rw [h3, List.length_append, List.length_singleton, List.length_cons]
    omega
theorem reachC_ok {M : ByteArray → Option (List S83)} : ∀ (k i : Nat) (R : List ByteArray) (N : List (List Int)) (RN : List ByteArray × List (List Int)), reachC M k i R N = some RN → N.length = i → i ≤ R.length → R.length ≤ 1000000 → (∀ row ∈ N, row.length ≤ 1000000 ∧ ∀ x ∈ row, 0 ≤ x ∧ x < (R.length : Int)) →
    RN.2.length = RN.1.length ∧ RN.1.length ≤ 1000000 ∧ R.length ≤ RN.1.length ∧ ∀ row ∈ RN.2, row.length ≤ 1000000 ∧ ∀ x ∈ row, 0 ≤ x ∧ x < (RN.1.length : Int)
  | 0, _, _, _, _, h, _, _, _, _ => by cases h
  | k + 1, i, R, N, RN, h, hN, hi, hR, hr => by
    rw [reachC] at h
    split at h
    · obtain ⟨ms, _, h⟩ := Option.bind_eq_some_iff.mp h
      split at h
      case isFalse => cases h
      rename_i hml
      obtain ⟨q, hq, h⟩ := Option.bind_eq_some_iff.mp h
      obtain ⟨h1, h2, h3, h4⟩ := nextS_ok ms R [] q hq hR (by simp)
      obtain ⟨g1, g2, g3, g4⟩ := reachC_ok k (i + 1) q.1 (N ++ [q.2]) RN h (by simp [hN]) (by omega) h2 (fun row hrow => by
        rcases List.mem_append.1 hrow with hrow | hrow
        · have := hr row hrow
          exact ⟨this.1, fun x hx => by have := this.2 x hx; omega⟩
        · rw [List.mem_singleton] at hrow
          subst hrow
          refine ⟨?_, h4⟩
          rw [h3, List.length_nil]
          omega)
      exact ⟨g1, g2, by omega, g4⟩
    · cases h
      exact ⟨show N.length = R.length by omega, hR, Nat.le_refl _, hr⟩
/-- the rings that are reached, and the places behind their moves -/
def ringG (KM K : Nat) (a : ByteArray) : Option (List ByteArray × List (List Int)) := reachC (fun s => spec_ciMoves.f KM s) K 0 [a] []
theorem ringG_ok {KM K : Nat} {a : ByteArray} {RN : List ByteArray × List (List Int)} (h : ringG KM K a = some RN) : RN.2.length = RN.1.length ∧ RN.1.length ≤ 1000000 ∧ 1 ≤ RN.1.length ∧ ∀ row ∈ RN.2, row.length ≤ 1000000 ∧ ∀ x ∈ row, 0 ≤ x ∧ x < (RN.1.length : Int) := by
  have := reachC_ok K 0 [a] [] RN h rfl (by simp) (by simp) (by simp)
  exact this
end
def spec_ciReach.f (a0 : Int) : Option (Int) := none
theorem spec_ciReach.calls : True := trivial


/-! ### spec_RingReached: function 15 (given) -/
section
open Go Go.RowKit Go.Lib Go.Proofs.YtjgijaocinpkhaaDoorW.PrintWords Go.Proofs.YtjgijaocinpkhaaDoorW.PrintLast Go.Proofs.YtjgijaocinpkhaaDoor.Pm
-- uses spec_ciGood.calls spec_ciReach.calls spec_ciSorted.calls
set_option maxHeartbeats 4000000 in
set_option maxRecDepth 1000000 in
theorem spec_RingReached.no1 (k : Nat) (a : ByteArray) (w : World) (h : spec_ciGood.f k a = some false) :
    Calls Tryd.prog 15 #[.string a] w fun e w' => e = .returned (.tuple #[.slice none 0 0, .bool false]) ∧ Below w.heap.size w w' := by
  go_enter Tryd.func15, Tryd.ntmps15
  go_wp2_with (first
    | (go_at_call 46; refine (spec_ciGood.calls k a false _ h).mono ?_; clear h; rintro e w1 ⟨rfl, m1, rfl⟩; have hb1 := pw_below_drewN (Below.refl w.heap.size w) m1; generalize w.drewN m1 = w1 at *))
  go_ret2
  exact ⟨rfl, hb1⟩
set_option maxHeartbeats 4000000 in
set_option maxRecDepth 1000000 in
theorem spec_RingReached.walk (k KM K : Nat) (a : ByteArray) (RN : List ByteArray × List (List Int)) (l : List ByteArray) (w : World) (h : spec_ciGood.f k a = some true) (hP : ringG KM K a = some RN) (hS : spec_ciSorted.f k RN.1 = some l) :
    Calls Tryd.prog 15 #[.string a] w fun e w' => (∃ v', e = .returned (.tuple #[v', .bool true]) ∧ Kd.R Kd.string 9 w' w.heap.size (fun _ => True) v' l) ∧ Below w.heap.size w w' := by
  obtain ⟨R, N⟩ := RN
  replace hS : spec_ciSorted.f k R = some l := hS
  go_enter Tryd.func15, Tryd.ntmps15
  go_wp2_with (first
    | (go_at_call 46; refine (spec_ciGood.calls k a true _ h).mono ?_; clear h; rintro e w1 ⟨rfl, m1, rfl⟩; have hb1 := pw_below_drewN (Below.refl w.heap.size w) m1; generalize w.drewN m1 = w1 at *)
    | (go_at_call 48; refine (spec_ciReach.walk KM K a (R, N) _ hP).mono ?_; clear hP; rintro e2 w2 ⟨G, v0, v1, rfl, hX⟩; have hb2 := below_step hb1 hX.B; obtain ⟨A0, c0, z0⟩ := Kd.R_slice hX.r0; subst z0; have hc0 : w2.cell? ⟨G, 0, none⟩ = some (.slice A0 R.length c0) := (blk_cell hX.p 0).trans rfl; have HRd := Aside0.mk (Kd.R_reads' hX.r0); clear hX)
    | (go_at_call 47; refine (spec_ciSorted.calls k A0 c0 R l w2 HRd.out.2.2 HRd.out.2.1 hS).mono ?_; rintro e w3 ⟨v', rfl, hr, hy⟩; have hb3 := below_step hb2 hy; have hr3 := Kd.R_lower hr hb2.size; obtain ⟨A3, k3, z3⟩ := Kd.R_slice hr3; subst z3; clear hy hr))
  go_ret2
  exact ⟨⟨_, rfl, hr3⟩, hb3⟩
end
/-- all rings that are reached, in order, by the reference -/
def spec_RingReached.f (k : Nat) (a0 : ByteArray) : Option (List ByteArray × Bool) := (spec_ciGood.f k a0).bind fun r => if r = true then ((ringG 3000 100000 a0).bind fun RN => (spec_ciSorted.f k RN.1).bind fun l => some (l, true)) else some ([], false)
theorem spec_RingReached.mono : ∀ a0 k, LeO (spec_RingReached.f k a0) (spec_RingReached.f (k + 1) a0) := by
  intro a0 k
  unfold spec_RingReached.f
  refine LeO.bind (spec_ciGood.mono _ _) (fun r => ?_)
  split
  · exact LeO.bind (LeO.refl _) (fun _ => LeO.bind (spec_ciSorted.mono _ _) (fun _ => LeO.refl _))
  · exact LeO.refl _
theorem spec_RingReached.calls (k : Nat) (a0 : ByteArray) (r1 : List ByteArray) (r2 : Bool) (w : World) (h : spec_RingReached.f k a0 = some (r1, r2)) :
    Calls Tryd.prog 15 #[.string a0] w fun e w' => ∃ v0_ : Value, e = .returned (.tuple #[v0_, .bool r2]) ∧ Go.Proofs.YtjgijaocinpkhaaDoorW.PrintWords.Kd.R Go.Proofs.YtjgijaocinpkhaaDoorW.PrintWords.Kd.string 9 w' w.heap.size (fun _ => True) v0_ r1 ∧ Below w.heap.size w w' := by
  unfold spec_RingReached.f at h
  obtain ⟨r, hr, h⟩ := Option.bind_eq_some_iff.mp h
  cases r with
  | false =>
    rw [if_neg (by decide)] at h
    cases h
    exact (spec_RingReached.no1 k a0 w hr).mono fun e w' h => ⟨_, h.1, Go.Proofs.YtjgijaocinpkhaaDoorW.PrintWords.Kd.R_nil _ _ _ _ _, h.2⟩
  | true =>
    rw [if_pos rfl] at h
    obtain ⟨RN, hP, h⟩ := Option.bind_eq_some_iff.mp h
    obtain ⟨l, hS, h⟩ := Option.bind_eq_some_iff.mp h
    cases h
    exact (spec_RingReached.walk k 3000 100000 a0 RN _ w hr hP hS).mono fun e w' h => by
      obtain ⟨⟨v', e1, e2⟩, e3⟩ := h
      exact ⟨v', e1, e2, e3⟩


/-! ### impl_isLineOf: function 85 -/
def impl_isLineOf.f (a0 : ByteArray) (a1 : Int) : Option (Bool) := (impl_within.f (a0.size : Int) 1 a1).bind fun t157 => (if t157 = true then ((strings_Trim.f a0 (⟨#[46, 70, 84]⟩ : ByteArray)).bind fun t158 => (some (t158.toList == ([] : List UInt8)))) else (some false))
set_option maxHeartbeats 8000000 in
set_option maxRecDepth 100000 in
theorem impl_isLineOf.calls (a0 : ByteArray) (a1 : Int) (r : Bool) (w : World) (h : impl_isLineOf.f a0 a1 = some r) :
    Calls Tryd.prog 85 #[.string a0, .int .i64 a1] w fun e w' => e = .returned (.bool r) ∧ Below w.heap.size w w' := by
  have HB := Aside0.mk (Below.refl w.heap.size w)
  have H : ((impl_within.f (a0.size : Int) 1 a1).bind fun t157 => (if t157 = true then ((strings_Trim.f a0 (⟨#[46, 70, 84]⟩ : ByteArray)).bind fun t158 => (some (t158.toList == ([] : List UInt8)))) else (some false))) = some r := h
  clear h
  replace H := Option.bind_eq_some_iff.mp H
  obtain ⟨t157, A30, H⟩ := H
  replace H : (if t157 = true then ((strings_Trim.f a0 (⟨#[46, 70, 84]⟩ : ByteArray)).bind fun t158 => (some (t158.toList == ([] : List UInt8)))) else (some false)) = some r := H
  have A3 := Aside0.mk A30
  clear A30
  by_cases c4 : t157 = true
  · subst c4
    have H1 : ((strings_Trim.f a0 (⟨#[46, 70, 84]⟩ : ByteArray)).bind fun t158 => (some (t158.toList == ([] : List UInt8)))) = some r := by rw [if_pos rfl] at H; exact H
    clear H
    have H := H1
    clear H1
    replace H := Option.bind_eq_some_iff.mp H
    obtain ⟨t158, A50, H⟩ := H
    replace H : (some (t158.toList == ([] : List UInt8))) = some r := H
    have A5 := Aside0.mk A50
    clear A50
    obtain rfl := Option.some.inj H
    go_enter Tryd.func85, Tryd.ntmps85
    go_wp2_with (first | ((with_reducible refine gate_callee (f := 102) rfl ?_); refine goesL_ (some 8) rfl rfl Tryd.func102 (by kernel_rfl) rfl #[.int .i64 (a0.size : Int), .int .i64 1, .int .i64 a1] rfl (by (try simp only [List.map_toArray, List.map_cons, List.map_nil]); first | done | rfl | (simp only [List.length_drop, List.length_take]; rfl)) ?_; (with_reducible refine (impl_within.calls (a0.size : Int) 1 a1 true _ A3.out).mono ?_); rintro e w' ⟨rfl, ⟨nd, rfl⟩⟩; refine ⟨_, rfl, ?_⟩) | (go_at_call 105; (with_reducible refine (strings_Trim.calls a0 (⟨#[46, 70, 84]⟩ : ByteArray) t158 _ A5.out).mono ?_); rintro e w6 ⟨rfl, hb⟩; have n0_ := Aside0.mk (below_step (by repeat (first | (with_reducible first | exact HB.out | apply below_alloc | apply pw_below_drewN | apply below_drew1) | exact HB.out)) hb); clear HB; have HB := n0_; clear n0_; (try clear hb); (try clear hb2); (try clear hk); (try clear hi)))
    go_ret
    exact ⟨by first | rfl | (simp [errW_none, errW_some] <;> rfl) | (simp [*, errW_none, errW_some] <;> rfl), by repeat (first | (with_reducible first | exact HB.out | apply below_alloc | apply pw_below_drewN | apply below_drew1) | exact HB.out)⟩
  · replace c4 := Bool.eq_false_iff.mpr c4
    subst c4
    have H1 : (some false) = some r := by rw [if_neg (show ¬ (false = true) by decide)] at H; exact H
    clear H
    have H := H1
    clear H1
    obtain rfl := Option.some.inj H
    go_enter Tryd.func85, Tryd.ntmps85
    go_wp2_with (first | ((with_reducible refine gate_callee (f := 102) rfl ?_); refine goesL_ (some 8) rfl rfl Tryd.func102 (by kernel_rfl) rfl #[.int .i64 (a0.size : Int), .int .i64 1, .int .i64 a1] rfl (by (try simp only [List.map_toArray, List.map_cons, List.map_nil]); first | done | rfl | (simp only [List.length_drop, List.length_take]; rfl)) ?_; (with_reducible refine (impl_within.calls (a0.size : Int) 1 a1 false _ A3.out).mono ?_); rintro e w' ⟨rfl, ⟨nd, rfl⟩⟩; refine ⟨_, rfl, ?_⟩))
    go_ret
    exact ⟨by first | rfl | (simp [errW_none, errW_some] <;> rfl) | (simp [*, errW_none, errW_some] <;> rfl), by repeat (first | (with_reducible first | exact HB.out | apply below_alloc | apply pw_below_drewN | apply below_drew1) | exact HB.out)⟩

/-! ### impl_IsRing: function 49 -/
def impl_IsRing.f (a0 : ByteArray) : Option (Bool) := (impl_isLineOf.f a0 9).bind fun t159 => (if t159 = true then (some (decide ((a0.size : Int) ≥ 3))) else (some false))
set_option maxHeartbeats 8000000 in
set_option maxRecDepth 100000 in
theorem impl_IsRing.calls (a0 : ByteArray) (r : Bool) (w : World) (h : impl_IsRing.f a0 = some r) :
    Calls Tryd.prog 49 #[.string a0] w fun e w' => e = .returned (.bool r) ∧ Below w.heap.size w w' := by
  have HB := Aside0.mk (Below.refl w.heap.size w)
  have H : ((impl_isLineOf.f a0 9).bind fun t159 => (if t159 = true then (some (decide ((a0.size : Int) ≥ 3))) else (some false))) = some r := h
  clear h
  replace H := Option.bind_eq_some_iff.mp H
  obtain ⟨t159, A20, H⟩ := H
  replace H : (if t159 = true then (some (decide ((a0.size : Int) ≥ 3))) else (some false)) = some r := H
  have A2 := Aside0.mk A20
  clear A20
  by_cases c3 : t159 = true
  · subst c3
    have H1 : (some (decide ((a0.size : Int) ≥ 3))) = some r := by rw [if_pos rfl] at H; exact H
    clear H
    have H := H1
    clear H1
    obtain rfl := Option.some.inj H
    go_enter Tryd.func49, Tryd.ntmps49
    go_wp2_with (first | ((with_reducible refine gate_callee (f := 85) rfl ?_); refine goesL_ (some 4) rfl rfl Tryd.func85 (by kernel_rfl) rfl #[.string a0, .int .i64 9] rfl (by (try simp only [List.map_toArray, List.map_cons, List.map_nil]); first | done | rfl | (simp only [List.length_drop, List.length_take]; rfl)) ?_; (with_reducible refine (impl_isLineOf.calls a0 9 true _ A2.out).mono ?_); rintro e w4 ⟨rfl, hb⟩; refine ⟨_, rfl, ?_⟩; have n0_ := Aside0.mk (below_step (by repeat (first | (with_reducible first | exact HB.out | apply below_alloc | apply pw_below_drewN | apply below_drew1) | exact HB.out)) hb); clear HB; have HB := n0_; clear n0_; (try clear hb); (try clear hb2); (try clear hk); (try clear hi)))
    go_ret
    exact ⟨by first | rfl | (simp [errW_none, errW_some] <;> rfl) | (simp [*, errW_none, errW_some] <;> rfl), by repeat (first | (with_reducible first | exact HB.out | apply below_alloc | apply pw_below_drewN | apply below_drew1) | exact HB.out)⟩
  · replace c3 := Bool.eq_false_iff.mpr c3
    subst c3
    have H1 : (some false) = some r := by rw [if_neg (show ¬ (false = true) by decide)] at H; exact H
    clear H
    have H := H1
    clear H1
    obtain rfl := Option.some.inj H
    go_enter Tryd.func49, Tryd.ntmps49
    go_wp2_with (first | ((with_reducible refine gate_callee (f := 85) rfl ?_); refine goesL_ (some 4) rfl rfl Tryd.func85 (by kernel_rfl) rfl #[.string a0, .int .i64 9] rfl (by (try simp only [List.map_toArray, List.map_cons, List.map_nil]); first | done | rfl | (simp only [List.length_drop, List.length_take]; rfl)) ?_; (with_reducible refine (impl_isLineOf.calls a0 9 false _ A2.out).mono ?_); rintro e w5 ⟨rfl, hb⟩; refine ⟨_, rfl, ?_⟩; have n0_ := Aside0.mk (below_step (by repeat (first | (with_reducible first | exact HB.out | apply below_alloc | apply pw_below_drewN | apply below_drew1) | exact HB.out)) hb); clear HB; have HB := n0_; clear n0_; (try clear hb); (try clear hb2); (try clear hk); (try clear hi)))
    go_ret
    exact ⟨by first | rfl | (simp [errW_none, errW_some] <;> rfl) | (simp [*, errW_none, errW_some] <;> rfl), by repeat (first | (with_reducible first | exact HB.out | apply below_alloc | apply pw_below_drewN | apply below_drew1) | exact HB.out)⟩

/-! ### slices_Sorted_string: function 50 (given) -/
section
open Go Go.RowKit Go.Lib Go.Shelf Go.Proofs.YtjgijaocinpkhaaDoorW.PrintWords Go.Proofs.YtjgijaocinpkhaaDoorW.PrintLast
attribute [local go_sem] Oper.semAt_some
theorem sqR_cell {base g n cap : Nat} {ok : Nat → Prop} {w : World} {xs : List ByteArray} (h : Kd.string.R 9 w base ok (.slice (some ⟨g, 0, none⟩) n cap) xs) (i : Nat) (hi : i < n) : w.cell? ⟨g, i, none⟩ = some (.string (rdOf ByteArray.empty xs (i : Int))) := by
  have := (Kd.R_celln (enc := Value.string) (h1 := fun _ => rfl) ByteArray.empty h (i : Int) (by omega) (by omega)).1
  rwa [Int.toNat_natCast] at this
theorem sqR_form {base : Nat} {ok : Nat → Prop} {w : World} {v : Value} {xs : List ByteArray} (h : Kd.string.R 9 w base ok v xs) (hn : 0 < xs.length) : ∃ g cap, v = .slice (some ⟨g, 0, none⟩) xs.length cap := by
  obtain ⟨inner, ho⟩ := Kd.R_own h
  rcases ho.2 with ⟨_, h0⟩ | ⟨g, cap, cur, rfl, _⟩
  · omega
  · exact ⟨g, cap, rfl⟩
theorem sq_info9 : (Tryd.prog.info? 9).map (fun i => (i.zero, i.size, i.bytes)) = some (some (.string ⟨#[]⟩), 1, 16) := by kernel_rfl
/-- what a round keeps: what lay below, and the box of the row -/
def KqB (n₀ Bs : Nat) (A B : World) : Prop := Below n₀ A B ∧ B.heap[Bs]? = A.heap[Bs]?
theorem KqB.t {n₀ Bs : Nat} {A B C : World} (h : KqB n₀ Bs A B) (k : KqB n₀ Bs B C) : KqB n₀ Bs A C := ⟨h.1.trans k.1, k.2.trans h.2⟩
theorem KqB.b {n₀ Bs : Nat} {w : World} (hn : n₀ ≤ w.heap.size) (hb : Bs < w.heap.size) (W : World) (l : Nat) (o o' : Obj) (hl : w.heap.size ≤ l) (h : W.heap[l]? = some o) (h1 : o.isCells = false) (h2 : o.isWalk = false) : KqB n₀ Bs W (W.putObj l o') := by
  refine ⟨belowK_b hn W l o o' hl h h1 h2, ?_⟩
  refine (grownBy_putObj' W l o').block Bs ?_ ?_
  · have := (Array.getElem?_eq_some_iff.1 h).1; omega
  · intro e; cases e; omega
set_option maxRecDepth 100000 in
set_option maxHeartbeats 2000000 in
theorem vals1_in (F : Fence) (n : Nat) (hf : F.fn 88) (hro : F.round = none) (hn : 1 ≤ n) (lp Bs base : Nat) (w0 : World) (A : Option Addr) (cap : Nat) (l : List ByteArray) (hr : Kd.R Kd.string 9 w0 base (fun _ => True) (.slice A l.length cap) l) (hreach : l.length ≤ 1000000)
    (J Jx : List ByteArray → World → Prop)
    (hY : ∀ pre x W, J pre W → pre.length < l.length → YieldAt F (n - 1) Tryd.prog lp #[.string x] W fun e W' =>
      (e = .returned (.bool true) ∧ J (pre ++ [x]) W' ∧ KqB w0.heap.size Bs W W') ∨ (e = .returned (.bool false) ∧ Jx (pre ++ [x]) W'))
    (W : World) (hW : Below w0.heap.size w0 W) (hBs : W.cell? ⟨Bs, 0, none⟩ = some (.slice A l.length cap)) (h0 : J [] W) :
    CallsIn F n Tryd.prog 88 #[.func (.yield lp) #[] #[], .pointer (some ⟨Bs, 0, none⟩)] W fun e W' => (∃ v, e = .returned v) ∧
      ((∃ ys, ys = l ∧ J ys W') ∨ (∃ pre, True ∧ Jx pre W')) := by
  have HR := Aside0.mk hr
  have HY := Aside0.mk hY
  clear hr hY
  refine callsIn_of_wp Tryd.func88 rfl hf ?_ hro
  simp only [Tryd.ntmps88, List.size_toArray, List.length_cons, List.length_nil, Nat.reduceAdd, Nat.reduceSub, Array.replicate_succ, Array.replicate_zero, List.push_toArray, List.append_toArray, List.nil_append, List.cons_append]
  gi_wp2
  gi_loopw [7] (fun i wr => ∃ k : Nat, k ≤ l.length ∧ i = .int .i64 (k : Int) ∧ J (l.take k) wr ∧ Below w0.heap.size w0 wr)
    (fun i _ => l.length - (RowKit.intOf i).toNat)
  case atStart => exact ⟨0, Nat.zero_le _, rfl, h0, hW⟩
  case round =>
    obtain ⟨k, hk, rfl, hJs, hB⟩ := hrel
    by_cases hlt : k < l.length
    · have hd1 : decide ((k : Int) < (l.length : Int)) = true := decide_eq_true (by omega)
      have hk0 : (0 : Int) ≤ (k : Int) := Int.natCast_nonneg _
      obtain ⟨g, cap', hvm⟩ := sqR_form HR.out (by omega)
      injection hvm with hA _ hcm
      subst hA
      subst hcm
      have hx0 := sqR_cell HR.out k hlt
      replace hx0 := (hB.cell (World.block_lt_of_cell? w0 _ hx0)).trans hx0
      have htk : l.take (k + 1) = l.take k ++ [rdOf ByteArray.empty l (k : Int)] := by
        rw [List.take_add_one, List.getElem?_eq_getElem hlt]
        unfold rdOf
        rw [Int.toNat_natCast, List.getD_eq_getElem?_getD, List.getElem?_eq_getElem hlt]
        rfl
      obtain ⟨fn, tmps, assign, body, hy, hR⟩ := HY.out _ (rdOf ByteArray.empty l (k : Int)) wr hJs (by rw [List.length_take]; omega)
      rw [← htk] at hR
      generalize rdOf ByteArray.empty l (k : Int) = x at *
      clear htk
      gi_wp2
      refine hR.mono ?_
      rintro e W3 (⟨rfl, hJ3, hk3⟩ | ⟨rfl, hJx3⟩)
      · gi_wp2
        go_roundw
        case rel => exact ⟨k + 1, by omega, rfl, hJ3, hB.trans hk3.1⟩
        case measure => simp [RowKit.intOf]; omega
      · gi_wp2
        refine bodyPost_ret (results_none rfl _ _ _) rfl ?_
        exact ⟨⟨_, rfl⟩, .inr ⟨_, trivial, hJx3⟩⟩
    · obtain rfl : k = l.length := by omega
      have hd1 : decide ((l.length : Int) < (l.length : Int)) = false := decide_eq_false (by omega)
      rw [List.take_length] at hJs
      gi_wp2
      go_end0
      exact ⟨⟨_, rfl⟩, .inl ⟨_, rfl, hJs⟩⟩
theorem vals_stops (F : Fence) (n : Nat) (hf : F.fn 88) (hro : F.round = none) (hn : 1 ≤ n) (Bs base : Nat) (w0 : World) (A : Option Addr) (cap : Nat) (l : List ByteArray) (hr : Kd.R Kd.string 9 w0 base (fun _ => True) (.slice A l.length cap) l) (hreach : l.length ≤ 1000000) (w : World) (hB : Bs < w.heap.size) (hw : Below w0.heap.size w0 w)
    (hc : w.cell? ⟨Bs, 0, none⟩ = some (.slice A l.length cap)) :
    SeqStopsK F n Tryd.prog 88 #[.pointer (some ⟨Bs, 0, none⟩)] (fun x : ByteArray => #[.string x]) (KqB w0.heap.size Bs) (fun ys => ys = l) (fun _ => True) l.length w := fun lp J Jx W hW _ _ hY h0 =>
  vals1_in F n hf hro hn lp Bs base w0 A cap l hr hreach J Jx hY W (hw.trans (hW.mono hw.size)) ((hW.cell (p := ⟨Bs, 0, none⟩) hB).trans hc) h0
/-- what holds between two rounds -/
structure SqI (w : World) (B Bs : Nat) (sv : Value) (pre : List ByteArray) (W : World) : Prop where
  ex : ∃ v, Boxed W B 22 v ∧ W.ownsRow w.heap.size 9 1 v pre.length (pre.map Value.string) ∧ True
  bs : Boxed W Bs 22 sv
  bl : Below w.heap.size w W
theorem SqI.own (w : World) (B Bs D : Nat) (sv : Value) (hD : w.heap.size ≤ D) : OwnFrom D (SqI w B Bs sv) := by
  intro s X Y row hs hg hr
  have hr' : ∀ r, row = some r → ∃ o : Obj, X.heap[r]? = some o ∧ o.isCells = false := fun r e => (hr r e).2
  exact ⟨holdsRow_own w.heap.size B 22 9 1 (fun pre : List ByteArray => pre.length) (fun pre => pre.map Value.string) (fun _ _ => True) s X Y row hs.ex hg hr', boxed_own Bs 22 (fun (_ : Unit) => sv) () X Y row hs.bs hg hr', ownFrom_below (β := Unit) (Nat.le_refl _) hD () X Y row hs.bl hg hr⟩
/-- a round's own variable -/
structure SqA (T : ByteArray → Array Value) (x : ByteArray) (a' : Act) (W : World) : Prop where
  ex : a' = { tmps := T x, defers := [] }
theorem SqA.own (T : ByteArray → Array Value) (D : Nat) (x : ByteArray) (a' : Act) : OwnFrom D (fun (_ : Unit) W => SqA T x a' W) := by
  intro _ X Y row hs hg hr
  exact ⟨hs.ex⟩
theorem cell_one_new (W : World) (a : Value) (t : TypeId) : ∀ (j : Nat) (u : Value), [a][j]? = some u → (W.alloc (.cells #[a] t)).cell? ((⟨W.heap.size, 0, none⟩ : Addr).add j) = some u
  | 0, u, h => by cases h; exact (blk_cell (blk_new W (.cells #[a] t (0, 0))) 0).trans rfl
  | j + 1, u, h => by simp at h
theorem str_flat (w : World) (base : Nat) (ok : Nat → Prop) (l : List ByteArray) : Reps (Kd.string.M w base ok) 1 l (l.map Value.string) := Go.Proofs.YtjgijaocinpkhaaDoor.Sorts.str_reps w base ok l
set_option maxHeartbeats 4000000 in
set_option maxRecDepth 1000000 in
theorem slices_Sorted_string.append_ (Bs base : Nat) (w0 w : World) (A : Option Addr) (cap : Nat) (l : List ByteArray) (hr : Kd.R Kd.string 9 w0 base (fun _ => True) (.slice A l.length cap) l) (hll : l.length ≤ 1000000) (hw : Below w0.heap.size w0 w) (hb : w.heap[Bs]? = some (.cells #[.slice A l.length cap] 22 (0, 0))) :
    Calls Tryd.prog 106 #[.slice none 0 0, .func (.func 88) #[] #[.pointer (some ⟨Bs, 0, none⟩)]] w fun e w' => (∃ v, e = .returned v ∧ Kd.R Kd.string 9 w' w.heap.size (fun _ => True) v l) ∧ Below w.heap.size w w' := by
  have HR := Aside0.mk hr
  clear hr
  have hBs := (Array.getElem?_eq_some_iff.1 hb).1
  refine (callsIn_wide (n := 9)).1 ?_
  refine callsIn_of_wp_marks Tryd.func106 rfl trivial ?_ rfl
  simp only [Tryd.ntmps106, List.size_toArray, List.length_cons, List.length_nil, Nat.reduceAdd, Nat.reduceSub, Array.replicate_succ, Array.replicate_zero, List.push_toArray, List.append_toArray, List.nil_append, List.cons_append]
  gi_wp2
  have HW0 : ∃ W0, (w.alloc (.cells #[.slice none 0 0] 22)) = W0 := ⟨_, rfl⟩
  have own0 : (w.alloc (.cells #[.slice none 0 0] 22)).ownsRow w.heap.size 9 1 (.slice none 0 0) 0 [] := ⟨rfl, .inl ⟨rfl, rfl⟩⟩
  have bB := Boxed.new w 22 (.slice none 0 0)
  have bS : Boxed (w.alloc (.cells #[.slice none 0 0] 22)) Bs 22 (.slice A l.length cap) := Boxed.alloc (show Boxed w Bs 22 (.slice A l.length cap) from hb) (.cells #[.slice none 0 0] 22)
  have hB0 : Below w.heap.size w (w.alloc (.cells #[.slice none 0 0] 22)) := below_alloc (Below.refl _ _) _
  have hw1 : Below w0.heap.size w0 (w.alloc (.cells #[.slice none 0 0] 22)) := hw.alloc hw.size _
  have hsz : (w.alloc (.cells #[.slice none 0 0] 22)).heap.size = w.heap.size + 1 := by simp
  obtain ⟨W0, hW0⟩ := HW0
  rw [hW0] at bB bS own0 hB0 hsz hw1 ⊢
  clear hW0
  have hi := sq_info9
  obtain ⟨i0, hi, hz0, hz1, hz2⟩ := info_parts hi
  refine wpIn_rangeFunc_ownH rfl (by omega) (gf := 88) (lb := #[.pointer (some ⟨Bs, 0, none⟩)]) rfl trivial (enters_of Tryd.func88 (by kernel_rfl) rfl)
    (vals_stops Fence.wide _ trivial rfl (by omega) Bs base w0 A cap l HR.out hll W0 (by omega) hw1 bS.cell) KqB.t (KqB.b hw1.size (by omega)) (Below.refl _ _) (fun _ => rfl)
    (SqI w w.heap.size Bs (.slice A l.length cap))
    (fun _ _ _ => False)
    (SqI.own w _ _ _ _ (by omega))
    (fun _ _ _ _ _ hs _ _ => hs)
    ⟨⟨_, bB, own0, trivial⟩, bS, hB0⟩
    (SqA fun x => #[.slice none 0 0, .func (.func 88) #[] #[.pointer (some ⟨Bs, 0, none⟩)], .pointer (some ⟨w.heap.size, 0, none⟩), undef, .slice none 0 0, .string x, .func (.func 88) #[] #[.pointer (some ⟨Bs, 0, none⟩)], .string x, undef, undef, undef, undef, undef])
    (fun x a' => SqA.own _ _ x a')
    ?assign ?body ?done ?stop
  case assign =>
    rintro lp pre x W K hIW hK
    gi_wp2
    exact hK _ _ (KeepsFrom.refl _ _) ⟨Below.refl _ W, rfl⟩ hIW ⟨rfl⟩
  case body =>
    rintro lp pre x a' W hl hrec hIW hA hlt
    obtain rfl := hA.ex
    obtain ⟨⟨v, hv, hrow, _⟩, hbs, hbl⟩ := hIW
    have hsW := hbl.size
    have hcB := hv.cell
    gi_wp2_with (gi_at_builtin; refine wpListIn_append_own _ rfl _ _ 22 rfl w.heap.size 9 i0 _ 1 16 Tryd.underlying22 hi hz0 hz1 hz2 rfl (by decide) _ _ _ rfl (hrow.alloc _) ⟨W.heap.size, 0, none⟩ 1 1 [.string x] rfl rfl (cell_one_new _ _ _) (by simp [Value.oneCell']) (by simp [maxLen]; omega) (by omega) (by simp; omega) ?_; intro v' w2 hown' hgrow _; obtain ⟨g', cap', rfl⟩ := ownsRow_succ hown'; obtain ⟨hv1, hv2, hr2, hk2, hb2⟩ := hv.appended (by decide) hrow hsW (by omega) hown' hgrow; have hcc := hv1.cell; have hff := hv1.frozen; have hbs2 := ((hbs.alloc _).kept hgrow (hbs.not_row (by decide) hrow)).other (B' := w.heap.size) (by omega) (.slice (some ⟨g', 0, none⟩) (pre.length + 1) cap'))
    exact ⟨hk2.from _, ⟨hb2.mono hw.size, hbs2.trans hbs.symm⟩, ⟨⟨_, hv2, by rw [List.map_append, List.length_append]; exact hr2, trivial⟩, hbs2, hbl.trans hb2⟩⟩
  case done =>
    rintro D ys W hD rfl hIW hK
    obtain ⟨⟨v, hv, hrow, _⟩, hbs, hbl⟩ := hIW
    have hcB := hv.cell
    gi_wp2
    refine ⟨by simp, .inl ⟨_, _, rfl, run_takeDeferred hK, ?_⟩⟩
    have ho2 := ownsRow_putObj hrow (.deferred none) hK rfl
    refine ⟨_, results_tmp rfl _ _ _, ⟨_, rfl, ⟨fun _ _ => trivial, _, ?_, str_flat _ _ _ _⟩⟩, hbl.trans (belowK_b (w := W0) (by omega) W D _ _ (by omega) hK rfl rfl)⟩
    exact ho2
  case stop =>
    rintro D c pre W _ _ h _
    exact h.elim
set_option maxHeartbeats 4000000 in
set_option maxRecDepth 1000000 in
theorem vals_call (a : Option Addr) (len cap : Nat) (w : World) :
    Calls Tryd.prog 51 #[.slice a len cap] w fun e w' => e = .returned (.func (.func 88) #[] #[.pointer (some ⟨w.heap.size, 0, none⟩)]) ∧ w' = w.alloc (.cells #[.slice a len cap] 22) := by
  have hmf : ∀ (fn : Fn) (first cap : Array Value) (w : World), (Instr.makeFunc fn first cap).run Tryd.prog w = .ok (.func fn first cap) w := fun _ _ _ _ => rfl
  go_enter Tryd.func51, Tryd.ntmps51
  go_wp2
  go_ret
  exact ⟨rfl, rfl⟩
set_option maxHeartbeats 4000000 in
set_option maxRecDepth 1000000 in
theorem slices_Sorted_string.walk (Bs base : Nat) (w0 w : World) (A : Option Addr) (cap : Nat) (l : List ByteArray) (hr : Kd.R Kd.string 9 w0 base (fun _ => True) (.slice A l.length cap) l) (hll : l.length ≤ 1000000) (hw : Below w0.heap.size w0 w) (hb : w.heap[Bs]? = some (.cells #[.slice A l.length cap] 22 (0, 0))) :
    Calls Tryd.prog 50 #[.func (.func 88) #[] #[.pointer (some ⟨Bs, 0, none⟩)]] w fun e w' => (∃ v, e = .returned v ∧ Kd.R Kd.string 9 w' w.heap.size (fun _ => True) v (Go.Proofs.YtjgijaocinpkhaaDoor.Sorts.sorted l)) ∧ Below w.heap.size w w' := by
  have HA := Aside0.mk (slices_Sorted_string.append_ Bs base w0 w A cap l hr hll hw hb)
  have HC : Calls Tryd.prog 86 #[.func (.func 88) #[] #[.pointer (some ⟨Bs, 0, none⟩)]] w fun e w' => (∃ v, e = .returned v ∧ Kd.R Kd.string 9 w' w.heap.size (fun _ => True) v l) ∧ Below w.heap.size w w' := by
    clear hr hb
    go_enter Tryd.func86, Tryd.ntmps86
    go_wp2_with (first
      | (go_at_call 106; refine HA.out.mono ?_; rintro e w1 ⟨⟨v, rfl, hr1⟩, hb1⟩))
    go_ret
    exact ⟨⟨_, rfl, hr1⟩, hb1⟩
  have HCC := Aside0.mk HC
  clear HC HA hr hb
  go_enter Tryd.func50, Tryd.ntmps50
  go_wp2_with (first
    | (go_at_call 86; refine HCC.out.mono ?_; rintro e w1 ⟨⟨v, rfl, hr1⟩, hb1⟩)
    | (go_at_call 87; refine (slices_Sort_string_string.calls (fun _ => True) v l _ w w1 hb1 hr1 (if_pos (by omega))).mono ?_; rintro e w2 ⟨rfl, hr2, hb2, _⟩))
  go_ret
  exact ⟨⟨_, rfl, Kd.R_mono hr2 (fun _ _ => trivial)⟩, hb2⟩
end
def slices_Sorted_string.f (a0 : Int) : Option (Int) := none
theorem slices_Sorted_string.calls : True := trivial


end Go.Proofs.YtjgijaocinpkhaaDoor.XZ
