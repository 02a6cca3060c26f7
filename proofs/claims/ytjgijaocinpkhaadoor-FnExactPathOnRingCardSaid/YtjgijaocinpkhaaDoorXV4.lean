/- The Lean functions that the Go functions of this seat compute, each with the proof that the Go function computes it, for every input (laws: FnExactPathOnRing). Conditions: none beyond those that each theorem names. Written by a program of this session over the kit's printer. -/
import Derived.Test.YtjgijaocinpkhaaDoorXV0
import Derived.Test.YtjgijaocinpkhaaDoorXV1
import Derived.Test.YtjgijaocinpkhaaDoorXV2
import Derived.Test.YtjgijaocinpkhaaDoorXV3
namespace Go.Proofs.YtjgijaocinpkhaaDoor.XV
open Go.RowKit Go.Proofs.YtjgijaocinpkhaaDoorW.PrintWords Go.Proofs.YtjgijaocinpkhaaDoorW.PrintLast Go.Proofs.YtjgijaocinpkhaaDoorW.PrintMore
attribute [local go_sem] max2_int min2_int max_two min_two max_three min_three max_four min_four   -- for this text's walks alone
attribute [local go_sem] Lib.run_min_strs Go.Proofs.YtjgijaocinpkhaaDoorXW.run_min2_strs Go.Proofs.YtjgijaocinpkhaaDoorXW.run_int_string
set_option linter.unusedVariables false
set_option linter.unusedSimpArgs false

/-! ### spec_liMake: function 74 -/
def spec_liMake.f (a0 : ByteArray) (a1_0 : Int) (a1_1 : Int) : Option (ByteArray) := if 0 ≤ a1_0 then (if a1_0 ≤ (wrap64 (a1_0 + 1)) then (if (wrap64 (a1_0 + 1)) ≤ (a0.size : Int) then ((spec_liPut.f a0 a1_0 (⟨#[46]⟩ : ByteArray)).bind fun t113 => ((spec_liPut.f t113 a1_1 (a0.extract (a1_0 : Int).toNat ((wrap64 (a1_0 + 1)) : Int).toNat)).bind fun t114 => (some t114))) else (none)) else (none)) else (none)
set_option maxHeartbeats 8000000 in
set_option maxRecDepth 100000 in
theorem spec_liMake.calls (a0 : ByteArray) (a1_0 : Int) (a1_1 : Int) (r : ByteArray) (w : World) (h : spec_liMake.f a0 a1_0 a1_1 = some r) :
    Calls Tryd.prog 74 #[.string a0, .agg #[.int .i64 a1_0, .int .i64 a1_1]] w fun e w' => e = .returned (.string r) ∧ Below w.heap.size w w' := by
  have hu83 := Tryd.underlying83
  have HB := Aside0.mk (Below.refl w.heap.size w)
  have H : (if 0 ≤ a1_0 then (if a1_0 ≤ (wrap64 (a1_0 + 1)) then (if (wrap64 (a1_0 + 1)) ≤ (a0.size : Int) then ((spec_liPut.f a0 a1_0 (⟨#[46]⟩ : ByteArray)).bind fun t113 => ((spec_liPut.f t113 a1_1 (a0.extract (a1_0 : Int).toNat ((wrap64 (a1_0 + 1)) : Int).toNat)).bind fun t114 => (some t114))) else (none)) else (none)) else (none)) = some r := h
  clear h
  by_cases c3 : 0 ≤ a1_0
  · rw [if_pos c3] at H
    have c3b0 := eq_true c3
    have c3b1 : decide (0 ≤ a1_0) = true := decide_eq_true c3
    clear c3
    by_cases c4 : a1_0 ≤ (wrap64 (a1_0 + 1))
    · rw [if_pos c4] at H
      have c4b0 := eq_true c4
      have c4b1 : decide (a1_0 ≤ (wrap64 (a1_0 + 1))) = true := decide_eq_true c4
      by_cases c5 : (wrap64 (a1_0 + 1)) ≤ (a0.size : Int)
      · rw [if_pos c5] at H
        have c5b0 := eq_true c5
        have c5b1 : decide ((wrap64 (a1_0 + 1)) ≤ (a0.size : Int)) = true := decide_eq_true c5
        replace H := Option.bind_eq_some_iff.mp H
        obtain ⟨t113, A60, H⟩ := H
        replace H : ((spec_liPut.f t113 a1_1 (a0.extract (a1_0 : Int).toNat ((wrap64 (a1_0 + 1)) : Int).toNat)).bind fun t114 => (some t114)) = some r := H
        have A6 := Aside0.mk A60
        clear A60
        replace H := Option.bind_eq_some_iff.mp H
        obtain ⟨t114, A70, H⟩ := H
        replace H : (some t114) = some r := H
        have A7 := Aside0.mk A70
        clear A70
        obtain rfl := Option.some.inj H
        go_enter Tryd.func74, Tryd.ntmps74
        go_wp2_with (first | ((with_reducible refine gate_dst (N := 3) rfl ?_); refine box_event ?hg (N := 3) ?hd (cs := #[.int .i64 a1_0, .int .i64 a1_1]) (t := 83) ?hr ?_; (case hd => rfl); (case hg => rfl); (case hr => first | (go_simp; done) | (go_simp; rfl)); intro gb112 hg w8 hbox hb; have n0_ := Aside0.mk (below_step (by repeat (first | (with_reducible first | exact HB.out | apply below_alloc | apply pw_below_drewN | apply below_drew1) | exact HB.out)) hb); have n1_ := Aside0.mk (hbox); have n2_ := Aside0.mk ((by rw [hg]; exact (below_size (by repeat (first | (with_reducible first | exact HB.out | apply below_alloc | apply pw_below_drewN | apply below_drew1) | exact HB.out))) : w.heap.size ≤ gb112)); have n3_ := Aside0.mk ((by rw [hg]; exact (below_size (by repeat (first | (with_reducible first | exact HB.out | apply below_alloc | apply pw_below_drewN | apply below_drew1) | exact HB.out))) : w.heap.size ≤ gb112)); clear HB; have HB := n0_; have BK112 := n1_; have GW112 := n2_; have GE112 := n3_; clear n0_ n1_ n2_ n3_; clear hb hbox hg; have hcz9_0 : w8.cell? ⟨gb112, 0, none⟩ = some (.int .i64 a1_0) := (blk_cell BK112.out 0).trans rfl; have hcz9_1 : w8.cell? ⟨gb112, 1, none⟩ = some (.int .i64 a1_1) := (blk_cell BK112.out 1).trans rfl; have hfz9_0 := blk_frozen BK112.out 0; have hfz9_1 := blk_frozen BK112.out 1) | (go_at_call 98; (with_reducible refine (spec_liPut.calls a0 a1_0 (⟨#[46]⟩ : ByteArray) t113 _ A6.out).mono ?_); rintro e w' ⟨rfl, ⟨nd, rfl⟩⟩; (try first | exact ⟨rfl, _, World.drewN_drewN _ _ _⟩ | exact ⟨rfl, _, Eq.trans (World.drewN_drewN _ _ _) (congrArg (World.drewN _) (Nat.add_assoc _ _ _))⟩)) | (go_at_call 98; (try refine Go.Proofs.YtjgijaocinpkhaaDoorXW.calls_args64 (by simp only [Go.Proofs.YtjgijaocinpkhaaDoorXW.wrapEq]; rfl) ?_); (with_reducible refine (spec_liPut.calls t113 a1_1 (a0.extract (a1_0 : Int).toNat ((wrap64 (a1_0 + 1)) : Int).toNat) t114 _ A7.out).mono ?_); rintro e w' ⟨rfl, ⟨nd, rfl⟩⟩; (try first | exact ⟨rfl, _, World.drewN_drewN _ _ _⟩ | exact ⟨rfl, _, Eq.trans (World.drewN_drewN _ _ _) (congrArg (World.drewN _) (Nat.add_assoc _ _ _))⟩)))
        repeat (go_quiet (first | ((with_reducible refine gate_dst (N := 3) rfl ?_); refine box_event ?hg (N := 3) ?hd (cs := #[.int .i64 a1_0, .int .i64 a1_1]) (t := 83) ?hr ?_; (case hd => rfl); (case hg => rfl); (case hr => first | (go_simp; done) | (go_simp; rfl)); intro gb112 hg w8 hbox hb; have n0_ := Aside0.mk (below_step (by repeat (first | (with_reducible first | exact HB.out | apply below_alloc | apply pw_below_drewN | apply below_drew1) | exact HB.out)) hb); have n1_ := Aside0.mk (hbox); have n2_ := Aside0.mk ((by rw [hg]; exact (below_size (by repeat (first | (with_reducible first | exact HB.out | apply below_alloc | apply pw_below_drewN | apply below_drew1) | exact HB.out))) : w.heap.size ≤ gb112)); have n3_ := Aside0.mk ((by rw [hg]; exact (below_size (by repeat (first | (with_reducible first | exact HB.out | apply below_alloc | apply pw_below_drewN | apply below_drew1) | exact HB.out))) : w.heap.size ≤ gb112)); clear HB; have HB := n0_; have BK112 := n1_; have GW112 := n2_; have GE112 := n3_; clear n0_ n1_ n2_ n3_; clear hb hbox hg; have hcz9_0 : w8.cell? ⟨gb112, 0, none⟩ = some (.int .i64 a1_0) := (blk_cell BK112.out 0).trans rfl; have hcz9_1 : w8.cell? ⟨gb112, 1, none⟩ = some (.int .i64 a1_1) := (blk_cell BK112.out 1).trans rfl; have hfz9_0 := blk_frozen BK112.out 0; have hfz9_1 := blk_frozen BK112.out 1) | (go_at_call 98; (with_reducible refine (spec_liPut.calls a0 a1_0 (⟨#[46]⟩ : ByteArray) t113 _ A6.out).mono ?_); rintro e w' ⟨rfl, ⟨nd, rfl⟩⟩; (try first | exact ⟨rfl, _, World.drewN_drewN _ _ _⟩ | exact ⟨rfl, _, Eq.trans (World.drewN_drewN _ _ _) (congrArg (World.drewN _) (Nat.add_assoc _ _ _))⟩)) | (go_at_call 98; (try refine Go.Proofs.YtjgijaocinpkhaaDoorXW.calls_args64 (by simp only [Go.Proofs.YtjgijaocinpkhaaDoorXW.wrapEq]; rfl) ?_); (with_reducible refine (spec_liPut.calls t113 a1_1 (a0.extract (a1_0 : Int).toNat ((wrap64 (a1_0 + 1)) : Int).toNat) t114 _ A7.out).mono ?_); rintro e w' ⟨rfl, ⟨nd, rfl⟩⟩; (try first | exact ⟨rfl, _, World.drewN_drewN _ _ _⟩ | exact ⟨rfl, _, Eq.trans (World.drewN_drewN _ _ _) (congrArg (World.drewN _) (Nat.add_assoc _ _ _))⟩))); try go_wp2_with (first | ((with_reducible refine gate_dst (N := 3) rfl ?_); refine box_event ?hg (N := 3) ?hd (cs := #[.int .i64 a1_0, .int .i64 a1_1]) (t := 83) ?hr ?_; (case hd => rfl); (case hg => rfl); (case hr => first | (go_simp; done) | (go_simp; rfl)); intro gb112 hg w8 hbox hb; have n0_ := Aside0.mk (below_step (by repeat (first | (with_reducible first | exact HB.out | apply below_alloc | apply pw_below_drewN | apply below_drew1) | exact HB.out)) hb); have n1_ := Aside0.mk (hbox); have n2_ := Aside0.mk ((by rw [hg]; exact (below_size (by repeat (first | (with_reducible first | exact HB.out | apply below_alloc | apply pw_below_drewN | apply below_drew1) | exact HB.out))) : w.heap.size ≤ gb112)); have n3_ := Aside0.mk ((by rw [hg]; exact (below_size (by repeat (first | (with_reducible first | exact HB.out | apply below_alloc | apply pw_below_drewN | apply below_drew1) | exact HB.out))) : w.heap.size ≤ gb112)); clear HB; have HB := n0_; have BK112 := n1_; have GW112 := n2_; have GE112 := n3_; clear n0_ n1_ n2_ n3_; clear hb hbox hg; have hcz9_0 : w8.cell? ⟨gb112, 0, none⟩ = some (.int .i64 a1_0) := (blk_cell BK112.out 0).trans rfl; have hcz9_1 : w8.cell? ⟨gb112, 1, none⟩ = some (.int .i64 a1_1) := (blk_cell BK112.out 1).trans rfl; have hfz9_0 := blk_frozen BK112.out 0; have hfz9_1 := blk_frozen BK112.out 1) | (go_at_call 98; (with_reducible refine (spec_liPut.calls a0 a1_0 (⟨#[46]⟩ : ByteArray) t113 _ A6.out).mono ?_); rintro e w' ⟨rfl, ⟨nd, rfl⟩⟩; (try first | exact ⟨rfl, _, World.drewN_drewN _ _ _⟩ | exact ⟨rfl, _, Eq.trans (World.drewN_drewN _ _ _) (congrArg (World.drewN _) (Nat.add_assoc _ _ _))⟩)) | (go_at_call 98; (try refine Go.Proofs.YtjgijaocinpkhaaDoorXW.calls_args64 (by simp only [Go.Proofs.YtjgijaocinpkhaaDoorXW.wrapEq]; rfl) ?_); (with_reducible refine (spec_liPut.calls t113 a1_1 (a0.extract (a1_0 : Int).toNat ((wrap64 (a1_0 + 1)) : Int).toNat) t114 _ A7.out).mono ?_); rintro e w' ⟨rfl, ⟨nd, rfl⟩⟩; (try first | exact ⟨rfl, _, World.drewN_drewN _ _ _⟩ | exact ⟨rfl, _, Eq.trans (World.drewN_drewN _ _ _) (congrArg (World.drewN _) (Nat.add_assoc _ _ _))⟩))))
        go_ret
        exact ⟨by first | rfl | (simp [errW_none, errW_some] <;> rfl) | (simp [*, errW_none, errW_some] <;> rfl), by repeat (first | (with_reducible first | exact HB.out | apply below_alloc | apply pw_below_drewN | apply below_drew1 | refine below_set ?_ GE112.out) | exact HB.out)⟩
      · rw [if_neg c5] at H
        exact absurd H (by simp)
    · rw [if_neg c4] at H
      exact absurd H (by simp)
  · rw [if_neg c3] at H
    exact absurd H (by simp)

/-! ### spec_ciReach: function 48 (given) -/
section
open Go Go.RowKit Go.Lib Go.Proofs.YtjgijaocinpkhaaDoorW.PrintWords Go.Proofs.YtjgijaocinpkhaaDoorW.PrintLast Go.Proofs.YtjgijaocinpkhaaDoor.Pm
-- uses spec_ciGraph_find.walk, impl_pathsFrom.walk
/-- the texts behind the moves of one: their places; what is new is set down -/
def nextS (x : ByteArray) : List S83 → List ByteArray → List Int → Option (List ByteArray × List Int)
  | [], R, ns => some (R, ns)
  | m :: r, R, ns => (spec_liMake.f x m.f0 m.f1).bind fun y => if R.length < 900000 then nextS x r (addS y R) (ns ++ [((posS y R : Nat) : Int)]) else none
def reachC (M : ByteArray → Option (List S83)) : Nat → Nat → List ByteArray → List (List Int) → Option (List ByteArray × List (List Int))
  | 0, _, _, _ => none
  | k + 1, i, R, N => if i < R.length then ((M (rdOf ByteArray.empty R (i : Int))).bind fun ms => if ms.length ≤ 1000000 ∧ N.length < 1000000 then ((nextS (rdOf ByteArray.empty R (i : Int)) ms R []).bind fun q => reachC M k (i + 1) q.1 (N ++ [q.2])) else none) else some (R, N)
abbrev kRow : Kd (List Int) := Kd.slice 3 (Kd.int .i64)
def NoB (v : Value) : Nat → Prop := fun k => some k ≠ v.ownBlock
/-- the graph, in memory; the row under work is none of its rows -/
structure Gx (w0 w : World) (G : Nat) (v0 v1 vn : Value) (R : List ByteArray) (N : List (List Int)) (ns : List Int) : Prop where
  B : Below w0.heap.size w0 w
  p : w.heap[G]? = some (.cells #[v0, v1] 57 (0, 0))
  lt : w0.heap.size ≤ G
  r0 : Kd.R Kd.string 9 w w0.heap.size T_ v0 R
  r1 : Kd.R kRow 65 w w0.heap.size (NoB vn) v1 N
  rn : Kd.R (Kd.int .i64) 3 w w0.heap.size T_ vn ns
theorem Gx.up {w0 w w1 : World} {G : Nat} {v0 v1 vn : Value} {R : List ByteArray} {N : List (List Int)} {ns : List Int} (h : Gx w0 w G v0 v1 vn R N ns) (hb : Below w.heap.size w w1) : Gx w0 w1 G v0 v1 vn R N ns :=
  ⟨below_step h.B hb, blk_below h.p hb, h.lt, Kd.R_below h.r0 hb, Kd.R_below h.r1 hb, Kd.R_below h.rn hb⟩
/-- a row by the types of its blocks -/
theorem R_typed {α : Type} {d : Kd α} {e base : Nat} {ok : Nat → Prop} {w w1 : World} {v : Value} {xs : List α} (h : d.R e w base ok v xs) (hm : ∀ k, ok k → k < w.heap.size → (∃ q, q ∈ e :: d.E ∧ ∃ cells, w.heap[k]? = some (.cells cells q (0, 0))) → w1.heap[k]? = w.heap[k]?) : d.R e w1 base ok v xs :=
  Kd.R_mono (Kd.R_move (Kd.R_bound h) (fun k hk => hm k hk.1 hk.2.2.1 hk.2.2.2)) (fun _ hk => hk.1)
theorem R_type {α : Type} {d : Kd α} {e base : Nat} {ok : Nat → Prop} {w : World} {v : Value} {xs : List α} (h : d.R e w base ok v xs) : ∀ k, v.ownBlock = some k → ∃ cells, w.heap[k]? = some (.cells cells e (0, 0)) := fun k hk => by
  obtain ⟨inner, ho⟩ := Kd.R_own h
  exact own_typed ho k hk
/-- behind find: another row that is of none of the two types -/
theorem FindK.row {α : Type} {d : Kd α} {e base base' G : Nat} {ok : Nat → Prop} {w w1 : World} {v v0 r' nx : Value} {xs : List α} {R : List ByteArray} {ok' : Nat → Prop} (h : d.R e w base ok v xs) (hk : FindK w w1 base' G v0 r') (hp : w.heap[G]? = some (.cells #[v0, nx] 57 (0, 0))) (h0 : Kd.string.R 9 w base' ok' v0 R) (h57 : 57 ∉ e :: d.E) (h9 : 9 ∉ e :: d.E) : d.R e w1 base ok v xs :=
  R_typed h (fun k _ hlt ⟨q, hq, cells, hc⟩ => hk.keep k hlt (fun e' => by
    rw [e', hp] at hc
    cases hc
    exact h57 hq) (fun e' => by
    obtain ⟨c2, hc2⟩ := R_type h0 k e'.symm
    rw [hc2] at hc
    cases hc
    exact h9 hq))
theorem Gx.find {w0 w w1 : World} {G : Nat} {v0 v1 vn r' : Value} {R R' : List ByteArray} {N : List (List Int)} {ns : List Int} (h : Gx w0 w G v0 v1 vn R N ns) (hk : FindK w w1 w0.heap.size G v0 r') (hp : w1.heap[G]? = some (.cells #[r', v1] 57 (0, 0))) (hr : Kd.R Kd.string 9 w1 w0.heap.size T_ r' R') : Gx w0 w1 G r' v1 vn R' N ns :=
  ⟨h.B.trans hk.bl, hp, h.lt, hr, FindK.row h.r1 hk h.p h.r0 (by decide) (by decide), FindK.row h.rn hk h.p h.r0 (by decide) (by decide)⟩
theorem addS_len (y : ByteArray) (R : List ByteArray) : R.length ≤ (addS y R).length ∧ (addS y R).length ≤ R.length + 1 := by
  unfold addS
  split <;> simp
theorem addS_rd (y : ByteArray) (R : List ByteArray) (i : Nat) (h : i < R.length) : rdOf ByteArray.empty (addS y R) (i : Int) = rdOf ByteArray.empty R (i : Int) := by
  rw [rdS_get h, rdS_get (Nat.lt_of_lt_of_le h (addS_len y R).1)]
  unfold addS
  split
  · rfl
  · exact List.getElem_append_left h
/-- a row by the types of its blocks, where one row of another type has grown -/
theorem R_gp {α : Type} {d : Kd α} {e base tr : Nat} {ok : Nat → Prop} {w w3 : World} {v : Value} {xs : List α} {row : Option Nat} (h : d.R e w base ok v xs) (hg : w.grownBy w3 row) (hrow : ∀ k, row = some k → ∃ cells, w.heap[k]? = some (.cells cells tr (0, 0))) (htr : tr ∉ e :: d.E) : d.R e w3 base ok v xs :=
  R_typed h (fun k _ hlt ⟨q, hq, cells, hc⟩ => hg.block k hlt (fun e' => by
    obtain ⟨c2, hc2⟩ := hrow k e'.symm
    rw [hc2] at hc
    cases hc
    exact htr hq))
theorem Gx.row {w0 w w9 : World} {G : Nat} {v0 v1 vn u9 : Value} {R : List ByteArray} {N : List (List Int)} {ns ns' : List Int} (h : Gx w0 w G v0 v1 vn R N ns) (ho : Kd.R (Kd.int .i64) 3 w9 w0.heap.size T_ u9 ns') (hb : Below w0.heap.size w0 w9) (hg : w.grownBy w9 vn.ownBlock) (hat : u9.ownBlock = vn.ownBlock ∨ ∃ b, u9.ownBlock = some b ∧ w.heap.size ≤ b) :
    Gx w0 w9 G v0 v1 u9 R N ns' :=
  ⟨hb, blk_grown h.p hg (Kd.R_ne h.rn h.p (by decide)), h.lt, R_gp h.r0 hg (fun k hk => R_type h.rn k hk) (by decide),
    Kd.R_mono (Kd.R_move (Kd.R_bound h.r1) (fun k hk => hg.block k hk.2.2.1 hk.1)) (fun k hk => by
      rcases hat with e | ⟨b, e, hb'⟩
      · unfold NoB
        rw [e]
        exact hk.1
      · unfold NoB
        rw [e]
        intro e2
        injection e2 with e2
        have := hk.2.2.1
        omega), ho⟩
theorem R_gs {α : Type} {d : Kd α} {e base G tr : Nat} {ok : Nat → Prop} {w w3 : World} {v : Value} {xs : List α} {cs : Array Value} {row : Option Nat} (h : d.R e w base ok v xs) (hg : w.grownBy w3 row) (hrow : ∀ k, row = some k → ∃ cells, w.heap[k]? = some (.cells cells tr (0, 0))) (hp : w.heap[G]? = some (.cells cs 57 (0, 0))) (h57 : 57 ∉ e :: d.E) (htr : tr ∉ e :: d.E) (j : Nat) (u : Value) : d.R e (w3.setCell ⟨G, j, none⟩ u) base ok v xs :=
  R_typed h (fun k _ hlt ⟨q, hq, cells, hc⟩ => (Below.heap_setCell w3 ⟨G, j, none⟩ u k (fun e' => by
    have e2 : k = G := e'
    rw [e2, hp] at hc
    cases hc
    exact h57 hq)).trans (hg.block k hlt (fun e' => by
    obtain ⟨c2, hc2⟩ := hrow k e'.symm
    rw [hc2] at hc
    cases hc
    exact htr hq)))
set_option maxHeartbeats 4000000 in
set_option maxRecDepth 1000000 in
theorem spec_ciReach.walk (KM K : Nat) (a : ByteArray) (RN : List ByteArray × List (List Int)) (w : World) (h : reachC (fun s => spec_ciMoves.f KM s) K 0 [a] [] = some RN) :
    Calls Tryd.prog 48 #[.string a] w fun e w' => ∃ G v0 v1, e = .returned (.pointer (some ⟨G, 0, none⟩)) ∧ Gx w w' G v0 v1 (.slice none 0 0) RN.1 RN.2 [] := by
  have HH := Lib.hid h
  clear h
  go_enter Tryd.func48, Tryd.ntmps48
  go_wp2_with fail
  have y0 : (w.alloc (.cells #[.string a] 9)).heap[w.heap.size]? = some (.cells #[.string a] 9 (0, 0)) := blk_new w _
  have z1 : (w.alloc (.cells #[.string a] 9)).heap.size = w.heap.size + 1 := by simp
  have q0 := blk_alloc y0 (.cells #[.slice (some ⟨w.heap.size, 0, none⟩) 1 1, .slice none 0 0] 57)
  have q1 : ((w.alloc (.cells #[.string a] 9)).alloc (.cells #[.slice (some ⟨w.heap.size, 0, none⟩) 1 1, .slice none 0 0] 57)).heap[w.heap.size + 1]? = some (.cells #[.slice (some ⟨w.heap.size, 0, none⟩) 1 1, .slice none 0 0] 57 (0, 0)) := (z1 ▸ blk_new _ _)
  have hB2 : Below w.heap.size w ((w.alloc (.cells #[.string a] 9)).alloc (.cells #[.slice (some ⟨w.heap.size, 0, none⟩) 1 1, .slice none 0 0] 57)) := below_alloc (below_alloc (Below.refl _ _) _) _
  have hP2 : Gx w ((w.alloc (.cells #[.string a] 9)).alloc (.cells #[.slice (some ⟨w.heap.size, 0, none⟩) 1 1, .slice none 0 0] 57)) (w.heap.size + 1) (.slice (some ⟨w.heap.size, 0, none⟩) 1 1) (.slice none 0 0) (.slice none 0 0) [a] [] [] :=
    ⟨hB2, q1, Nat.le_succ _, R_one Kd.string q0 (by omega) (fun _ => rfl), Kd.R_nil _ _ _ _ _, Kd.R_nil _ _ _ _ _⟩
  clear y0 z1 q0 q1 hB2
  generalize w.heap.size + 1 = G at *
  go_loopg [4] K (fun kq x4 wr => ∃ (i : Nat) (u0 u1 : Value) (R : List ByteArray) (N : List (List Int)), x4 = .int .i64 (i : Int) ∧ Aside0 (Gx w wr G u0 u1 (.slice none 0 0) R N []) ∧ Hid (reachC (fun s => spec_ciMoves.f KM s) kq i R N = some RN) ∧ i ≤ R.length ∧ 0 < R.length ∧ R.length ≤ 1000000)
  case atStart => exact ⟨0, _, _, [a], [], rfl, Aside0.mk hP2, HH, Nat.zero_le _, Nat.zero_lt_one, by simp⟩
  case round =>
    clear hP2 HH
    obtain ⟨i, u0, u1, R, N, rfl, HP, HO, hi, hR0, hRm⟩ := hrel
    have ho := HO.out
    have hP := HP.out
    obtain ⟨g0, c0, hu0⟩ := R_form hP.r0 hR0
    subst hu0
    have hc0 : wr.cell? ⟨G, 0, none⟩ = some (.slice (some ⟨g0, 0, none⟩) R.length c0) := (blk_cell hP.p 0).trans rfl
    have hpi : (0 : Int) ≤ (i : Int) := Int.natCast_nonneg _
    cases gk with
    | zero => cases ho
    | succ g' =>
      simp only [reachC] at ho
      by_cases hlt : i < R.length
      · have hdec : decide ((i : Int) < (R.length : Int)) = true := decide_eq_true (by omega)
        rw [if_pos hlt] at ho
        obtain ⟨x, hx5⟩ : ∃ x, rdOf ByteArray.empty R (i : Int) = x := ⟨_, rfl⟩
        rw [hx5] at ho
        obtain ⟨ms, hms, ho⟩ := Option.bind_eq_some_iff.mp ho
        by_cases hml : ms.length ≤ 1000000 ∧ N.length < 1000000
        case neg => rw [if_neg hml] at ho; cases ho
        rw [if_pos hml] at ho
        obtain ⟨q, hv, ho⟩ := Option.bind_eq_some_iff.mp ho
        have hcl := R_scell hP.r0 (i : Int) hpi (by omega)
        rw [Int.toNat_natCast, hx5] at hcl
        have HV := Lib.hid hv
        have HP1 := Lib.hid ho
        clear hv ho HO
        go_wp2_with (first
          | (go_at_call 70; refine (spec_ciMoves.calls KM x ms _ hms).mono ?_; rintro e1 W5 ⟨vms, rfl, hRms, hb5⟩; obtain ⟨Am, cm, hzm⟩ := Kd.R_slice hRms; subst hzm))
        have hP5 := hP.up hb5
        have hR5 : Kd.R k83 83 W5 w.heap.size T_ (.slice Am ms.length cm) ms := Kd.R_mono (Kd.R_lower hRms hP.B.size) (fun _ _ => trivial)
        clear hb5 hRms hcl hP HP hc0
        go_loopw [5, 30] (fun x5 x30 wq => ∃ (j : Nat) (q0 vn : Value) (R1 : List ByteArray) (ns : List Int), x5 = vn ∧ x30 = .int .i64 (j : Int) ∧ j ≤ ms.length ∧ ns.length = j ∧ Aside0 (Gx w wq G q0 u1 vn R1 N ns) ∧ Hid (nextS x (ms.drop j) R1 ns = some q) ∧ R.length ≤ R1.length ∧ rdOf ByteArray.empty R1 (i : Int) = x ∧ R1.length ≤ 1000000 ∧
            Aside0 (Kd.R k83 83 wq w.heap.size T_ (.slice Am ms.length cm) ms)) (fun _ x30 _ => ms.length - (RowKit.intOf x30).toNat)
        case atStart => exact ⟨0, _, _, R, [], rfl, rfl, Nat.zero_le _, rfl, Aside0.mk hP5, HV, Nat.le_refl _, hx5, hRm, Aside0.mk hR5⟩
        case round =>
          clear hP5 HV hR5 hx5
          obtain ⟨j, q0, vn, R1, ns, rfl, rfl, hj, hns, HQ, HV, hRR, hxx, hR1m, HR⟩ := hrel
          have hQ := HQ.out
          have hv := HV.out
          obtain ⟨g0', c0', hu0⟩ := R_form hQ.r0 (by omega)
          subst hu0
          by_cases hjl : j < ms.length
          · have hdec : decide ((j : Int) < (ms.length : Int)) = true := decide_eq_true (by omega)
            obtain ⟨gm, cm', hvm⟩ := R_form HR.out (by omega)
            injection hvm with hA _ hcm
            subst hA
            subst hcm
            obtain ⟨ad, ead, hx0, hx1⟩ := at_T83 (Kd.R_reads' HR.out).2.2 (j : Int) (by omega) (by omega)
            have hd : ms.drop j = rd_T83 ms (j : Int) :: ms.drop (j + 1) := by
              rw [List.drop_eq_getElem_cons hjl]
              unfold rd_T83
              rw [Int.toNat_natCast, List.getD_eq_getElem?_getD, List.getElem?_eq_getElem hjl]
              rfl
            rw [hd] at hv
            rw [Int.toNat_natCast] at hx0 hx1
            clear hd HV
            cases ead
            generalize rd_T83 ms (j : Int) = m at *
            obtain ⟨f, t⟩ := m
            replace hx0 : wr.cell? ⟨gm, j * 2, none⟩ = some (.int .i64 f) := by rw [Addr.add_lit, Nat.zero_add] at hx0; exact hx0
            replace hx1 : wr.cell? ⟨gm, j * 2 + 1, none⟩ = some (.int .i64 t) := by rw [Addr.add_lit, Nat.zero_add] at hx1; exact hx1
            simp only [nextS] at hv
            obtain ⟨y, hy, hv⟩ := Option.bind_eq_some_iff.mp hv
            by_cases h9 : R1.length < 900000
            case neg => rw [if_neg h9] at hv; cases hv
            rw [if_pos h9] at hv
            have HV := Lib.hid hv
            clear hv
            have hp0 : (0 : Int) ≤ (j : Int) := Int.natCast_nonneg _
            have hcl := R_scell hQ.r0 (i : Int) hpi (by omega)
            rw [Int.toNat_natCast, hxx] at hcl
            have hie : i < R1.length := by omega
            have hie0 : decide ((i : Int) < (R1.length : Int)) = true := decide_eq_true (by omega)
            go_wp2_with fail
            have hb4 : Below wr.heap.size wr (wr.alloc (.cells #[.int .i64 f, .int .i64 t] 83 (0, 0))).drew := below_drew1 (below_alloc (Below.refl _ _) _)
            have hbx : (wr.alloc (.cells #[.int .i64 f, .int .i64 t] 83 (0, 0))).drew.heap[wr.heap.size]? = some (.cells #[.int .i64 f, .int .i64 t] 83 (0, 0)) := blk_drew (blk_new wr _)
            have hQ4 := hQ.up hb4
            have hR4 := Kd.R_below HR.out hb4
            have hcl4 := (hb4.cell (World.block_lt_of_cell? wr _ hcl)).trans hcl
            clear hx0 hx1 HR hb4 hcl
            refine start_ (n := 15) (S := fun w' => w'.cell? ⟨G, 0, none⟩ = some (.slice (some ⟨g0', 0, none⟩) R1.length c0') ∧ w'.cell? ⟨g0', i, none⟩ = some (.string x) ∧ w'.cell? ⟨wr.heap.size, 0, none⟩ = some (.int .i64 f) ∧ w'.cell? ⟨wr.heap.size, 1, none⟩ = some (.int .i64 t)) (ds := [11, 12, 13]) #[false, false, false, false, false, false, false, false, false, false, false, false, false, false, false] (by kernel_rfl) rfl rfl ⟨(blk_cell hQ4.p 0).trans rfl, hcl4, (blk_cell hbx 0).trans rfl, (blk_cell hbx 1).trans rfl⟩ (fun hHeld => ?_)
            generalize (wr.alloc (.cells #[.int .i64 f, .int .i64 t] 83 (0, 0))).drew = W4 at *
            refine pure_ (i := 0) (N := some 34) (v := ?_) (a' := ?_) #[true, false, false, false, false, false, false, false, false, false, false, false, false, false, false] rfl rfl (by kernel_rfl) (fun _ _ _ h => h) (Or.inl ⟨by rfl, ?_⟩) ?_ ?_
            rotate_left
            · intro w'
              go_simp
              with_reducible rfl
            rotate_left
            · simp only [Act.put, List.setIfInBounds_toArray, List.set_cons_zero, List.set_cons_succ, i64_w, i32_w]
              rfl
            refine pure_ (i := 1) (N := some 35) (v := ?_) (a' := ?_) #[true, true, false, false, false, false, false, false, false, false, false, false, false, false, false] rfl rfl (by kernel_rfl) (fun _ _ _ h => h) (Or.inl ⟨by rfl, ?_⟩) ?_ ?_
            rotate_left
            · intro w'
              go_simp
              with_reducible rfl
            rotate_left
            · simp only [Act.put, List.setIfInBounds_toArray, List.set_cons_zero, List.set_cons_succ, i64_w, i32_w]
              rfl
            refine pure_ (i := 2) (N := some 36) (v := ?_) (a' := ?_) #[true, true, true, false, false, false, false, false, false, false, false, false, false, false, false] rfl rfl (by kernel_rfl) (fun _ _ _ h => h) (Or.inl ⟨by rfl, ?_⟩) ?_ ?_
            rotate_left
            · intro w'
              go_simp
              with_reducible rfl
            rotate_left
            · simp only [Act.put, List.setIfInBounds_toArray, List.set_cons_zero, List.set_cons_succ, i64_w, i32_w]
              rfl
            refine pure_ (i := 3) (N := some 37) (v := ?_) (a' := ?_) #[true, true, true, true, false, false, false, false, false, false, false, false, false, false, false] rfl rfl (by kernel_rfl) (fun _ _ _ h => h) (Or.inl ⟨by rfl, ?_⟩) ?_ ?_
            rotate_left
            · intro w'
              go_simp
              with_reducible rfl
            rotate_left
            · simp only [Act.put, List.setIfInBounds_toArray, List.set_cons_zero, List.set_cons_succ, i64_w, i32_w]
              rfl
            refine pure_ (i := 4) (N := some 38) (v := ?_) (a' := ?_) #[true, true, true, true, true, false, false, false, false, false, false, false, false, false, false] rfl rfl (by kernel_rfl) (fun _ _ _ h => h) (Or.inl ⟨by rfl, ?_⟩) ?_ ?_
            rotate_left
            · intro w'
              go_simp
              with_reducible rfl
            rotate_left
            · simp only [Act.put, List.setIfInBounds_toArray, List.set_cons_zero, List.set_cons_succ, i64_w, i32_w]
              rfl
            refine take_ (i := 5) (N := some 39) (v := ?_) (a' := ?_) #[true, true, true, true, true, true, false, false, false, false, false, false, false, false, false] rfl rfl (by kernel_rfl) (fun _ _ _ h => h) (Or.inl ⟨by rfl, ?_⟩) hHeld ?_ ?_
            rotate_left
            · rintro w' ⟨s0, s1, s2, s3⟩
              go_simp
              with_reducible rfl
            rotate_left
            · simp only [Act.put, List.setIfInBounds_toArray, List.set_cons_zero, List.set_cons_succ, i64_w, i32_w]
              rfl
            refine pure_ (i := 6) (N := some 40) (v := ?_) (a' := ?_) #[true, true, true, true, true, true, true, false, false, false, false, false, false, false, false] rfl rfl (by kernel_rfl) (fun _ _ _ h => h) (Or.inl ⟨by rfl, ?_⟩) ?_ ?_
            rotate_left
            · intro w'
              go_simp
              with_reducible rfl
            rotate_left
            · simp only [Act.put, List.setIfInBounds_toArray, List.set_cons_zero, List.set_cons_succ, i64_w, i32_w]
              rfl
            refine take_ (i := 7) (N := some 41) (v := ?_) (a' := ?_) #[true, true, true, true, true, true, true, true, false, false, false, false, false, false, false] rfl rfl (by kernel_rfl) (fun _ _ _ h => h) (Or.inl ⟨by rfl, ?_⟩) hHeld ?_ ?_
            rotate_left
            · rintro w' ⟨s0, s1, s2, s3⟩
              go_simp
              with_reducible rfl
            rotate_left
            · simp only [Act.put, List.setIfInBounds_toArray, List.set_cons_zero, List.set_cons_succ, i64_w, i32_w]
              rfl
            refine take_ (i := 8) (N := some 42) (v := ?_) (a' := ?_) #[true, true, true, true, true, true, true, true, true, false, false, false, false, false, false] rfl rfl (by kernel_rfl) (fun _ _ _ h => h) (Or.inl ⟨by rfl, ?_⟩) hHeld ?_ ?_
            rotate_left
            · rintro w' ⟨s0, s1, s2, s3⟩
              go_simp
              with_reducible rfl
            rotate_left
            · simp only [Act.put, List.setIfInBounds_toArray, List.set_cons_zero, List.set_cons_succ, i64_w, i32_w]
              rfl
            refine take_ (i := 9) (N := some 43) (v := ?_) (a' := ?_) #[true, true, true, true, true, true, true, true, true, true, false, false, false, false, false] rfl rfl (by kernel_rfl) (fun _ _ _ h => h) (Or.inl ⟨by rfl, ?_⟩) hHeld ?_ ?_
            rotate_left
            · rintro w' ⟨s0, s1, s2, s3⟩
              go_simp
              with_reducible rfl
            rotate_left
            · simp only [Act.put, List.setIfInBounds_toArray, List.set_cons_zero, List.set_cons_succ, i64_w, i32_w]
              rfl
            refine one_ (i := 10) (N := some 44) #[true, true, true, true, true, true, true, true, true, true, true, false, false, false, false] rfl rfl (by kernel_rfl) (by decide) (fun K hK => ?_)
            refine goes_ Tryd.func74 (by kernel_rfl) rfl #[.string x, .agg #[.int .i64 f, .int .i64 t]] (by rfl) rfl rfl (by (try simp only [List.map_toArray, List.map_cons, List.map_nil]); first | done | rfl) ?_
            with_reducible refine (spec_liMake.calls x f t y _ hy).mono ?_
            rintro e1 W5 ⟨rfl, hb5⟩
            refine ⟨_, rfl, ?_⟩
            have hQ5 := hQ4.up hb5
            have hR5 := Kd.R_below hR4 hb5
            have hbx5 := blk_below hbx hb5
            have hcl5 := (hb5.cell (World.block_lt_of_cell? W4 _ hcl4)).trans hcl4
            clear hQ4 hR4 hbx hcl4 hb5 hHeld hQ HQ
            refine hK.out _ _ ⟨(blk_cell hQ5.p 0).trans rfl, hcl5, (blk_cell hbx5 0).trans rfl, (blk_cell hbx5 1).trans rfl⟩ (fun hHeld => ?_)
            clear hK K
            refine norm_ (a' := ?_) ?_ ?_
            rotate_left
            · show Act.put _ (some 44) _ = _
              simp only [Act.put, List.setIfInBounds_toArray, List.set_cons_zero, List.set_cons_succ, i64_w, i32_w]
              rfl
            refine last_ (i := 11) (N := some 45) #[true, true, true, true, true, true, true, true, true, true, true, true, false, false, false] rfl rfl (by kernel_rfl) (by decide) (fun K hK => ?_)
            refine goes_ Tryd.func84 (by kernel_rfl) rfl #[.pointer (some ⟨G, 0, none⟩), .string y] (by rfl) rfl rfl (by (try simp only [List.map_toArray, List.map_cons, List.map_nil]); first | done | rfl) ?_
            with_reducible refine (spec_ciGraph_find.walk y R1 G w.heap.size g0' c0' u1 W5 hQ5.p (Kd.R_mono hQ5.r0 (fun _ _ => trivial)) hQ5.B.size hQ5.lt (by omega)).mono ?_
            rintro e1 W6 ⟨rfl, r6, hp6, hr6, hk6⟩
            refine ⟨_, rfl, ?_⟩
            have hQ6 := hQ5.find hk6 hp6 (Kd.R_mono hr6 (fun _ _ => trivial))
            have hR6 := FindK.row hR5 hk6 hQ5.p hQ5.r0 (by decide) (by decide)
            clear hQ5 hR5 hbx5 hcl5 hHeld hp6 hr6 hk6
            refine hK.out _ _ ?_
            clear hK K
            refine norm_ (a' := ?_) ?_ ?_
            rotate_left
            · show Act.put _ (some 45) _ = _
              simp only [Act.put, List.setIfInBounds_toArray, List.set_cons_zero, List.set_cons_succ, i64_w, i32_w]
              rfl
            obtain ⟨An, cn, hzn⟩ := Kd.R_slice hQ6.rn
            subst hzn
            refine last_ (i := 12) (N := some 46) #[true, true, true, true, true, true, true, true, true, true, true, true, true, false, false] rfl rfl (by kernel_rfl) (by decide) (fun K hK => ?_)
            refine value_ (by rfl) rfl (v := .slice (some ⟨W6.heap.size, 0, none⟩) 1 1) (w1 := W6.alloc (.cells #[.int .i64 ((posS y R1 : Nat) : Int)] 3 (0, 0))) ?_ ?_
            · first | (go_simp; done) | (go_simp; rfl)
            refine hK.out _ _ ?_
            clear hK K
            refine norm_ (a' := ?_) ?_ ?_
            rotate_left
            · show Act.put _ (some 46) _ = _
              simp only [Act.put, List.setIfInBounds_toArray, List.set_cons_zero, List.set_cons_succ, i64_w, i32_w]
              rfl
            have hpx : (0 : Int) ≤ ((posS y R1 : Nat) : Int) := Int.natCast_nonneg _
            refine last_ (i := 13) (N := some 47) #[true, true, true, true, true, true, true, true, true, true, true, true, true, true, false] rfl rfl (by kernel_rfl) (by decide) (fun K hK => ?_)
            refine Kd.R_append_step (Kd.int .i64) (w0 := w) w.heap.size (by rfl) (.tmp 34) (.tmp 46) 65 3 (.int .i64 0) 8 rfl Tryd.underlying65 (by kernel_rfl) rfl (by decide) (by decide) (.slice An ns.length cn) ns ((posS y R1 : Nat) : Int) [.int .i64 ((posS y R1 : Nat) : Int)] T_ (fun _ => False) (by rfl) (by rfl) rfl (fun _ h => h.elim) (fun _ _ => trivial) hQ6.rn hQ6.B hQ6.B.size (by omega) ?_
            intro u9 w9 ho9 hb9 hg9 hat9
            obtain ⟨A9, n9, k9, z9⟩ := R_any ho9
            subst z9
            refine hK.out _ _ ?_
            clear hK K
            refine norm_ (a' := ?_) ?_ ?_
            rotate_left
            · show Act.put _ (some 47) _ = _
              simp only [Act.put, List.setIfInBounds_toArray, List.set_cons_zero, List.set_cons_succ, i64_w, i32_w]
              rfl
            refine pure_ (i := 14) (N := some 5) (v := ?_) (a' := ?_) #[true, true, true, true, true, true, true, true, true, true, true, true, true, true, true] rfl rfl (by kernel_rfl) (fun _ _ _ h => h) (Or.inl ⟨by rfl, ?_⟩) ?_ ?_
            rotate_left
            · intro w'
              go_simp
              with_reducible rfl
            rotate_left
            · simp only [Act.put, List.setIfInBounds_toArray, List.set_cons_zero, List.set_cons_succ, i64_w, i32_w]
              rfl
            refine done_ (by kernel_rfl) ?_
            have hQ9 := hQ6.row ho9 hb9 hg9 hat9
            have hR9 : Kd.R k83 83 w9 w.heap.size T_ (.slice (some ⟨gm, 0, none⟩) ms.length cm) ms := R_gp hR6 hg9 (fun k hk => R_type hQ6.rn k hk) (by decide)
            clear hQ6 hR6 ho9 hb9 hg9 hat9
            go_wp2
            exact ⟨⟨j + 1, _, _, addS y R1, ns ++ [((posS y R1 : Nat) : Int)], rfl, rfl, by omega, by simp [hns], Aside0.mk hQ9, HV, Nat.le_trans hRR (addS_len y R1).1, (addS_rd y R1 i hie).trans hxx, Nat.le_trans (addS_len y R1).2 (by omega), Aside0.mk hR9⟩, by simp [RowKit.intOf]; omega⟩
          · have hdec : decide ((j : Int) < (ms.length : Int)) = false := decide_eq_false (by omega)
            rw [List.drop_of_length_le (by omega)] at hv
            simp only [nextS] at hv
            obtain rfl := Option.some.inj hv
            clear hv HV
            subst hns
            obtain ⟨An, cn, hzn⟩ := Kd.R_slice hQ.rn
            subst hzn
            obtain ⟨A1, n1, c1, hz1⟩ := R_any hQ.r1
            subst hz1
            have hc1 : wr.cell? ⟨G, 1, none⟩ = some (.slice A1 n1 c1) := (blk_cell hQ.p 1).trans rfl
            have hMn : kRow.M wr w.heap.size (fun k => (Value.slice An ns.length cn).ownBlock = some k) ns [.slice An ns.length cn] := ⟨_, rfl, Kd.R_flat flat_i hQ.rn (fun k hk _ => hk)⟩
            have hokp : ∀ k, (Value.slice An ns.length cn).ownBlock = some k → T_ k ∧ some k ≠ (Value.slice A1 n1 c1).ownBlock := fun k hk => ⟨trivial, fun e => by
              obtain ⟨c2, h2⟩ := R_type hQ.rn k hk
              obtain ⟨c3, h3⟩ := R_type hQ.r1 k e.symm
              rw [h2] at h3
              cases h3⟩
            have hO1 : kRow.R 65 wr w.heap.size T_ (.slice A1 n1 c1) N := Kd.R_mono hQ.r1 (fun _ _ => trivial)
            go_wp2_with (first
              | ((with_reducible refine gate_builtin (b := .append) (xs := #[.tmp 53, .tmp 55]) rfl ?_); at_builtin; refine Kd.R_append kRow (w0 := w) w.heap.size rfl (.tmp 53) (.tmp 55) 55 65 (.slice none 0 0) 24 rfl Tryd.underlying55 (by kernel_rfl) rfl (by decide) (by decide) (.slice A1 n1 c1) N ns [.slice An ns.length cn] T_ (fun k => (Value.slice An ns.length cn).ownBlock = some k) rfl rfl hMn hokp (fun _ _ => trivial) hO1 hQ.B hQ.B.size (by omega) ?_; intro u3 w3 ho3 hb3 hg3 hat3; obtain ⟨A3, n3, c3, hz3⟩ := R_any ho3; subst hz3; have hp3 := blk_grown hQ.p hg3 (Kd.R_ne hQ.r1 hQ.p (by decide)); have hc3 : w3.cell? ⟨G, 1, none⟩ = some (.slice A1 n1 c1) := (blk_cell hp3 1).trans rfl; have hf3 := blk_frozen hp3 1))
            have hQ4 : Gx w (w3.setCell ⟨G, 1, none⟩ (.slice A3 n3 c3)) G (.slice (some ⟨g0', 0, none⟩) R1.length c0') (.slice A3 n3 c3) (.slice none 0 0) R1 (N ++ [ns]) [] :=
              ⟨hb3.setCell (p := ⟨G, 1, none⟩) hQ.lt _, (blk_set hp3 1 _).trans rfl, hQ.lt, R_gs hQ.r0 hg3 (fun k hk => R_type hQ.r1 k hk) hQ.p (by decide) (by decide) 1 _, Kd.R_mono (Kd.R_set ho3 hp3 (by decide) 1 _) (fun k _ => by simp [NoB, Value.ownBlock]), Kd.R_nil _ _ _ _ _⟩
            go_roundg g'
            case measure => omega
            case rel => exact ⟨i + 1, _, _, R1, N ++ [ns], rfl, Aside0.mk hQ4, HP1, by omega, by omega, hR1m⟩
      · have hdec : decide ((i : Int) < (R.length : Int)) = false := decide_eq_false (by omega)
        rw [if_neg hlt] at ho
        obtain rfl := Option.some.inj ho
        clear ho HO
        go_wp2
        go_ret
        exact ⟨G, rfl, _, _, hP⟩
end
def spec_ciReach.f (a0 : Int) : Option (Int) := none
theorem spec_ciReach.calls : True := trivial


/-! ### spec_ciGraph_to: function 65 (given) -/
section
open Go Go.RowKit Go.Lib Go.Proofs.YtjgijaocinpkhaaDoorW.PrintWords Go.Proofs.YtjgijaocinpkhaaDoorW.PrintLast Go.Proofs.YtjgijaocinpkhaaDoor.Pm
-- uses spec_ciReach.calls
/-- the graph, in memory -/
structure Gr (base : Nat) (w : World) (G : Nat) (v0 v1 : Value) (R : List ByteArray) (N : List (List Int)) : Prop where
  p : w.heap[G]? = some (.cells #[v0, v1] 57 (0, 0))
  lt : base ≤ G
  r0 : Kd.R Kd.string 9 w base T_ v0 R
  r1 : Kd.R kRow 65 w base T_ v1 N
theorem Gr.up {base : Nat} {w w1 : World} {G : Nat} {v0 v1 : Value} {R : List ByteArray} {N : List (List Int)} (h : Gr base w G v0 v1 R N) (hb : Below w.heap.size w w1) : Gr base w1 G v0 v1 R N :=
  ⟨blk_below h.p hb, h.lt, Kd.R_below h.r0 hb, Kd.R_below h.r1 hb⟩
theorem Gx.gr {w0 w : World} {G : Nat} {v0 v1 vn : Value} {R : List ByteArray} {N : List (List Int)} {ns : List Int} (h : Gx w0 w G v0 v1 vn R N ns) : Gr w0.heap.size w G v0 v1 R N := ⟨h.p, h.lt, h.r0, Kd.R_mono h.r1 (fun _ _ => trivial)⟩
theorem R_rcell {base g n cap : Nat} {ok : Nat → Prop} {w : World} {xs : List (List Int)} (h : Kd.R kRow 65 w base ok (.slice (some ⟨g, 0, none⟩) n cap) xs) (i : Nat) (hi : i < n) : ∃ v, w.cell? ⟨g, i, none⟩ = some v ∧ Kd.R (Kd.int .i64) 3 w base T_ v (xs.getD i []) := by
  obtain ⟨c, _, hM, hc, _⟩ := Kd.R_elem h [] (i : Int) (by omega) (by omega)
  obtain ⟨v, rfl, hv⟩ := hM
  have := hc 0 v rfl
  rw [Int.toNat_natCast, show i * kRow.sz + 0 = i from Nat.mul_one i] at this
  rw [Int.toNat_natCast] at hv
  exact ⟨v, this, Kd.R_mono hv (fun _ _ => trivial)⟩
/-- one of a row has a number -/
def hitT (far : List Int) (d : Int) (row : List Int) : Bool := row.any fun k => rdOf 0 far k == d
def roundT (d : Nat) : Nat → List (List Int) → List Int → Bool → List Int × Bool
  | _, [], far, b => (far, b)
  | i, row :: rest, far, b => if 0 ≤ rdOf 0 far (i : Int) then roundT d (i + 1) rest far b else if hitT far ((d : Int) - 1) row = true then roundT d (i + 1) rest (far.set i (d : Int)) true else roundT d (i + 1) rest far b
def toT (N : List (List Int)) : Nat → Nat → List Int → Option (List Int)
  | 0, _, _ => none
  | k + 1, d, far => if d < 1000000 then (if (roundT d 0 N far false).2 = true then toT N k (d + 1) (roundT d 0 N far false).1 else some (roundT d 0 N far false).1) else none
def far0 (n v : Nat) : List Int := (List.replicate n (-1 : Int)).set v 0
theorem far_step (n i : Nat) (h : i < n) : (List.replicate i (-1 : Int) ++ List.replicate (n - i) 0).set i (-1) = List.replicate (i + 1) (-1) ++ List.replicate (n - (i + 1)) 0 := by
  have e : List.replicate (n - i) (0 : Int) = 0 :: List.replicate (n - (i + 1)) 0 := by
    rw [← List.replicate_succ]
    congr 1
    omega
  rw [List.set_append_right _ _ (by simp), e, List.length_replicate, Nat.sub_self, List.set_cons_zero, List.replicate_succ', List.append_assoc]
  rfl
theorem hit_false {far : List Int} {d : Int} {row : List Int} {j : Nat} (h : hitT far d (row.take j) = false) (hj : j < row.length) (he : (rdOf 0 far (rdOf 0 row (j : Int)) == d) = false) : hitT far d (row.take (j + 1)) = false := by
  unfold hitT at *
  rw [List.take_add_one, List.any_append, h, Bool.false_or, List.getElem?_eq_getElem hj]
  have : rdOf 0 row (j : Int) = row[j] := by
    unfold rdOf
    rw [Int.toNat_natCast, List.getD_eq_getElem?_getD, List.getElem?_eq_getElem hj]
    rfl
  rw [this] at he
  simp [he]
theorem hit_true {far : List Int} {d : Int} {row : List Int} {j : Nat} (hj : j < row.length) (he : (rdOf 0 far (rdOf 0 row (j : Int)) == d) = true) : hitT far d row = true := by
  unfold hitT
  refine List.any_eq_true.2 ⟨row[j], List.getElem_mem hj, ?_⟩
  have : rdOf 0 row (j : Int) = row[j] := by
    unfold rdOf
    rw [Int.toNat_natCast, List.getD_eq_getElem?_getD, List.getElem?_eq_getElem hj]
    rfl
  rw [← this]
  exact he
theorem roundT_len (d : Nat) : ∀ (rows : List (List Int)) (i : Nat) (far : List Int) (b : Bool), (roundT d i rows far b).1.length = far.length
  | [], _, _, _ => rfl
  | row :: rest, i, far, b => by
    rw [roundT]
    split
    · exact roundT_len d rest (i + 1) far b
    · split
      · rw [roundT_len d rest (i + 1) _ true, List.length_set]
      · exact roundT_len d rest (i + 1) far b
theorem rdI_get {l : List Int} {j : Nat} (hj : j < l.length) : rdOf 0 l (j : Int) = l[j] := by
  unfold rdOf
  rw [Int.toNat_natCast, List.getD_eq_getElem?_getD, List.getElem?_eq_getElem hj]
  rfl
set_option maxHeartbeats 4000000 in
set_option maxRecDepth 1000000 in
theorem spec_ciGraph_to.walk (K : Nat) (R : List ByteArray) (N : List (List Int)) (F : List Int) (G base : Nat) (v0 v1 : Value) (v : Nat) (w : World) (hg : Gr base w G v0 v1 R N) (hbase : base ≤ w.heap.size) (hv : v < R.length) (hN : N.length ≤ R.length)
    (hk : ∀ row ∈ N, row.length ≤ 1000000 ∧ ∀ k ∈ row, 0 ≤ k ∧ k < (R.length : Int)) (hR : R.length ≤ 1000000) (h : toT N K 1 (far0 R.length v) = some F) :
    Calls Tryd.prog 65 #[.pointer (some ⟨G, 0, none⟩), .int .i64 (v : Int)] w fun e w' => (∃ vf, e = .returned vf ∧ Kd.R (Kd.int .i64) 3 w' w.heap.size T_ vf F ∧ F.length = R.length) ∧ Below w.heap.size w w' := by
  have HH := Lib.hid h
  have HK := Aside0.mk hk
  have HG := Aside0.mk hg
  obtain ⟨g0, c0, hu0⟩ := R_form hg.r0 (by omega)
  subst hu0
  obtain ⟨A1, c1, hu1⟩ := Kd.R_slice hg.r1
  subst hu1
  have hc0 : w.cell? ⟨G, 0, none⟩ = some (.slice (some ⟨g0, 0, none⟩) R.length c0) := (blk_cell hg.p 0).trans rfl
  have hB0 := Below.refl w.heap.size w
  clear h hk hg
  go_enter Tryd.func65, Tryd.ntmps65
  go_wp2_with (first
    | ((with_reducible refine gate_dst (N := 18) rfl ?_); refine Kd.R_make (w0 := w) (Kd.int .i64) w.heap.size 3 rfl (N := 18) rfl 65 (.tmp 17) (.tmp 17) rfl (R.length : Int) rfl rfl Tryd.underlying65 (.int .i64 0) 8 (by kernel_rfl) rfl (by decide) (by decide) (0 : Int) (ok := T_) (okp := T_) rfl (fun _ hk => hk) trivial (by omega) (by rw [Int.toNat_natCast]; omega) hB0 (Nat.le_refl _) ?_; intro vf w1 ho1 hb1 hg1 hx1; rw [Int.toNat_natCast] at ho1; obtain ⟨gf, cf, hzf⟩ := R_form ho1 (by rw [List.length_replicate]; omega); rw [List.length_replicate] at hzf; subst hzf; have hgf : w.heap.size ≤ gf := Kd.R_base ho1 gf rfl; clear hx1 hg1 hc0 hB0))
  go_loopw [21] (fun x21 wr => ∃ i : Nat, i ≤ R.length ∧ x21 = .int .i64 (i : Int) ∧ Aside0 (Kd.R (Kd.int .i64) 3 wr w.heap.size T_ (.slice (some ⟨gf, 0, none⟩) R.length cf) (List.replicate i (-1) ++ List.replicate (R.length - i) 0)) ∧ Aside0 (Below w.heap.size w wr)) (fun x21 _ => R.length - (RowKit.intOf x21).toNat)
  case atStart => exact ⟨0, Nat.zero_le _, rfl, Aside0.mk (by simpa using ho1), Aside0.mk hb1⟩
  case round =>
    clear ho1 hb1
    obtain ⟨i, hi, rfl, HF, HB⟩ := hrel
    by_cases hil : i < R.length
    · have hdec : decide ((i : Int) < (R.length : Int)) = true := decide_eq_true (by omega)
      have hi0 : (0 : Int) ≤ (i : Int) := Int.natCast_nonneg _
      have hcc := Kd.R_celln (enc := Value.int .i64) (h1 := fun _ => rfl) 0 HF.out (i : Int) hi0 (by omega)
      rw [Int.toNat_natCast] at hcc
      obtain ⟨hcc, hff⟩ := hcc
      have hpt := Kd.R_putn (enc := Value.int .i64) (h1 := fun _ => rfl) HF.out (i : Int) (-1)
      rw [Int.toNat_natCast, far_step _ _ hil] at hpt
      have HF2 := Aside0.mk hpt
      clear hpt
      go_wp2
      exact ⟨⟨i + 1, by omega, rfl, HF2, Aside0.mk (HB.out.setCell (p := ⟨gf, i, none⟩) hgf _)⟩, by simp [RowKit.intOf]; omega⟩
    · obtain rfl : i = R.length := by omega
      have hdec : decide ((R.length : Int) < (R.length : Int)) = false := decide_eq_false (by omega)
      have hF := HF.out
      rw [Nat.sub_self, List.replicate_zero, List.append_nil] at hF
      have hv0 : (0 : Int) ≤ (v : Int) := Int.natCast_nonneg _
      have hvd : decide ((v : Int) < (R.length : Int)) = true := decide_eq_true (by omega)
      have hcc := Kd.R_celln (enc := Value.int .i64) (h1 := fun _ => rfl) 0 hF (v : Int) hv0 (by omega)
      rw [Int.toNat_natCast] at hcc
      obtain ⟨hcc, hff⟩ := hcc
      have hpt := Kd.R_putn (enc := Value.int .i64) (h1 := fun _ => rfl) hF (v : Int) 0
      rw [Int.toNat_natCast] at hpt
      have HF2 : Aside0 (Kd.R (Kd.int .i64) 3 _ w.heap.size T_ _ (far0 R.length v)) := Aside0.mk hpt
      clear hpt hF
      have HB2 := Aside0.mk (HB.out.setCell (p := ⟨gf, v, none⟩) hgf (.int .i64 0))
      clear HB HF
      go_wp2
      generalize wr.setCell ⟨gf, v, none⟩ (.int .i64 0) = W2 at *
      go_loopg [7, 8] K (fun kq x7 x8 wr => ∃ (d : Nat) (b : Bool) (far : List Int), x7 = .int .i64 (d : Int) ∧ x8 = .bool b ∧ 1 ≤ d ∧ d ≤ 1000000 ∧ far.length = R.length ∧ Aside0 (Kd.R (Kd.int .i64) 3 wr w.heap.size T_ (.slice (some ⟨gf, 0, none⟩) R.length cf) far) ∧ Aside0 (Below w.heap.size w wr) ∧ Hid ((if b = true then toT N kq d far else some far) = some F))
      case atStart => exact ⟨1, true, _, rfl, rfl, Nat.le_refl _, by decide, by simp [far0], HF2, HB2, HH⟩
      case round =>
        clear HF2 HB2 HH hcc hff
        obtain ⟨d, b, far, rfl, rfl, hd1, hd2, hfl, HF, HB, HO⟩ := hrel
        have ho := HO.out
        cases b with
        | false =>
          rw [if_neg (by decide)] at ho
          obtain rfl := Option.some.inj ho
          clear ho HO
          go_wp2
          go_ret
          exact ⟨⟨_, rfl, HF.out, hfl⟩, HB.out⟩
        | true =>
          rw [if_pos rfl] at ho
          cases gk with
          | zero => cases ho
          | succ g' =>
            rw [toT] at ho
            by_cases hdl : d < 1000000
            case neg => rw [if_neg hdl] at ho; cases ho
            rw [if_pos hdl] at ho
            obtain ⟨q, hq⟩ : ∃ q, roundT d 0 N far false = q := ⟨_, rfl⟩
            rw [hq] at ho
            have HQ := Lib.hid hq
            have HP := Lib.hid ho
            have hql : q.1.length = R.length := by rw [← hq, roundT_len]; exact hfl
            clear ho HO hq
            have hc1 : wr.cell? ⟨G, 1, none⟩ = some (.slice A1 N.length c1) := (blk_cell (HG.out.up HB.out).p 1).trans rfl
            go_wp2
            clear hc1
            go_loopw [8, 39] (fun x8 x39 wq => ∃ (i : Nat) (b : Bool) (fa : List Int), x8 = .bool b ∧ x39 = .int .i64 (i : Int) ∧ i ≤ N.length ∧ fa.length = R.length ∧ Aside0 (Kd.R (Kd.int .i64) 3 wq w.heap.size T_ (.slice (some ⟨gf, 0, none⟩) R.length cf) fa) ∧ Aside0 (Below w.heap.size w wq) ∧ Hid (roundT d i (N.drop i) fa b = q)) (fun _ x39 _ => N.length - (RowKit.intOf x39).toNat)
            case atStart => exact ⟨0, false, far, rfl, rfl, Nat.zero_le _, hfl, HF, HB, HQ⟩
            case round =>
              clear HF HB HQ hfl
              obtain ⟨i, b, fa, rfl, rfl, hi, hfl, HF, HB, HQ⟩ := hrel
              have hq := HQ.out
              by_cases hil : i < N.length
              · have hdec : decide ((i : Int) < (N.length : Int)) = true := decide_eq_true (by omega)
                have hi0 : (0 : Int) ≤ (i : Int) := Int.natCast_nonneg _
                have hdecn : decide ((i : Int) < (R.length : Int)) = true := decide_eq_true (by omega)
                obtain ⟨row, hrow⟩ : ∃ row, N.getD i [] = row := ⟨_, rfl⟩
                have hmem : row ∈ N := by rw [← hrow, List.getD_eq_getElem?_getD, List.getElem?_eq_getElem hil]; exact List.getElem_mem hil
                have hdr : N.drop i = row :: N.drop (i + 1) := by
                  rw [List.drop_eq_getElem_cons hil, ← hrow, List.getD_eq_getElem?_getD, List.getElem?_eq_getElem hil]
                  rfl
                rw [hdr, roundT] at hq
                have hG := HG.out.up HB.out
                obtain ⟨g1, c1', hA1⟩ := R_form hG.r1 (by omega)
                injection hA1 with hA _ hcm
                subst hA
                subst hcm
                obtain ⟨vr, hvr, hRr⟩ := R_rcell hG.r1 i (by omega)
                rw [hrow] at hRr
                obtain ⟨Ar, cr, hzr⟩ := Kd.R_slice hRr
                subst hzr
                have hcf := R_icell HF.out (i : Int) hi0 (by omega)
                rw [Int.toNat_natCast] at hcf
                have HRr := Aside0.mk hRr
                clear hG hRr hdr hrow
                by_cases hfp : 0 ≤ rdOf 0 fa (i : Int)
                · rw [if_pos hfp] at hq
                  have HQ2 := Lib.hid hq
                  have hfd : decide (rdOf 0 fa (i : Int) ≥ 0) = true := decide_eq_true hfp
                  clear hq HQ
                  go_wp2
                  exact ⟨⟨i + 1, b, fa, rfl, rfl, by omega, hfl, HF, HB, HQ2⟩, by simp [RowKit.intOf]; omega⟩
                · rw [if_neg hfp] at hq
                  have HQ2 := Lib.hid hq
                  have hfd : decide (rdOf 0 fa (i : Int) ≥ 0) = false := decide_eq_false hfp
                  have hfd2 : decide (0 ≤ rdOf 0 fa (i : Int)) = false := decide_eq_false hfp
                  clear hq HQ
                  go_wp2
                  clear hvr hcf
                  go_loopw [8, 51] (fun x8 x51 wz => ∃ j : Nat, x8 = .bool b ∧ j ≤ row.length ∧ x51 = .int .i64 (j : Int) ∧ Hid (hitT fa ((d : Int) - 1) (row.take j) = false) ∧ wz = wr) (fun _ x51 _ => row.length - (RowKit.intOf x51).toNat)
                  case atStart => exact ⟨0, rfl, Nat.zero_le _, rfl, Lib.hid rfl, rfl⟩
                  case round =>
                    obtain ⟨j, rfl, hj, rfl, HJ, rfl⟩ := hrel
                    have hrl := (HK.out row hmem).1
                    by_cases hjl : j < row.length
                    · have hdecj : decide ((j : Int) < (row.length : Int)) = true := decide_eq_true (by omega)
                      have hj0 : (0 : Int) ≤ (j : Int) := Int.natCast_nonneg _
                      obtain ⟨gr, cr', hAr⟩ := R_form HRr.out (by omega)
                      injection hAr with hA _ hcm
                      subst hA
                      subst hcm
                      have hck := R_icell HRr.out (j : Int) hj0 (by omega)
                      rw [Int.toNat_natCast] at hck
                      have hkk := (HK.out row hmem).2 (rdOf 0 row (j : Int)) (by rw [rdI_get hjl]; exact List.getElem_mem hjl)
                      have hcf := R_icell HF.out (rdOf 0 row (j : Int)) hkk.1 hkk.2
                      have hkd : decide (rdOf 0 row (j : Int) < (R.length : Int)) = true := decide_eq_true hkk.2
                      have hwd : wrap64 ((d : Int) - 1) = (d : Int) - 1 := by unfold wrap64; omega
                      have hk1 := hkk.1
                      have hk2 := hkk.2
                      cases he : (rdOf 0 fa (rdOf 0 row (j : Int)) == (d : Int) - 1) with
                      | true =>
                        have hht := hit_true hjl he
                        have hcc := Kd.R_celln (enc := Value.int .i64) (h1 := fun _ => rfl) 0 HF.out (i : Int) hi0 (by omega)
                        rw [Int.toNat_natCast] at hcc
                        obtain ⟨hcc, hff⟩ := hcc
                        have hpt := Kd.R_putn (enc := Value.int .i64) (h1 := fun _ => rfl) HF.out (i : Int) (d : Int)
                        rw [Int.toNat_natCast] at hpt
                        have HF2 := Aside0.mk hpt
                        have HB2 := Aside0.mk (HB.out.setCell (p := ⟨gf, i, none⟩) hgf (.int .i64 (d : Int)))
                        have HQ3 := Lib.hid (HQ2.out)
                        have hq3 := HQ3.out
                        rw [if_pos hht] at hq3
                        have HQ4 := Lib.hid hq3
                        clear hpt hht HQ2 HQ3 hq3 HF HB HJ hkk
                        go_wp2
                        exact ⟨⟨i + 1, true, fa.set i (d : Int), rfl, rfl, by omega, by rw [List.length_set]; exact hfl, HF2, HB2, HQ4⟩, by simp [RowKit.intOf]; omega⟩
                      | false =>
                        have HJ2 := Lib.hid (hit_false HJ.out hjl he)
                        clear HJ hkk
                        go_wp2
                        exact ⟨⟨j + 1, rfl, by omega, rfl, HJ2, by trivial⟩, by simp [RowKit.intOf]; omega⟩
                    · obtain rfl : j = row.length := by omega
                      have hdecj : decide ((row.length : Int) < (row.length : Int)) = false := decide_eq_false (by omega)
                      have hj := HJ.out
                      rw [List.take_length] at hj
                      have hq3 := HQ2.out
                      rw [if_neg (by rw [hj]; decide)] at hq3
                      have HQ4 := Lib.hid hq3
                      clear HQ2 hq3 hj HJ
                      go_wp2
                      exact ⟨⟨i + 1, b, fa, rfl, rfl, by omega, hfl, HF, HB, HQ4⟩, by simp [RowKit.intOf]; omega⟩
              · obtain rfl : i = N.length := by omega
                have hdec : decide ((N.length : Int) < (N.length : Int)) = false := decide_eq_false (by omega)
                rw [List.drop_length, roundT] at hq
                subst hq
                have hwd : wrap64 ((d : Int) + 1) = (d : Int) + 1 := by unfold wrap64; omega
                clear HQ
                go_wp2
                go_roundg g'
                case measure => omega
                case rel => exact ⟨d + 1, b, fa, rfl, rfl, by omega, by omega, hfl, HF, HB, HP⟩
end
def spec_ciGraph_to.f (a0 : Int) : Option (Int) := none
theorem spec_ciGraph_to.calls : True := trivial


/-! ### spec_ciPath: function 64 (given) -/
section
open Go Go.RowKit Go.Lib Go.Proofs.YtjgijaocinpkhaaDoorW.PrintWords Go.Proofs.YtjgijaocinpkhaaDoorW.PrintLast Go.Proofs.YtjgijaocinpkhaaDoor.Pm
-- uses spec_ciReach.calls spec_ciGraph_to.calls
theorem posS_lt (y : ByteArray) (R : List ByteArray) : posS y R < (addS y R).length := by
  have h := pos_le y R
  unfold addS
  split
  · assumption
  · simp
    omega
theorem nextS_ok {x : ByteArray} : ∀ (ms : List S83) (R : List ByteArray) (ns : List Int) (q : List ByteArray × List Int), nextS x ms R ns = some q → R.length ≤ 1000000 → (∀ k ∈ ns, 0 ≤ k ∧ k < (R.length : Int)) →
    R.length ≤ q.1.length ∧ q.1.length ≤ 1000000 ∧ q.2.length = ns.length + ms.length ∧ ∀ k ∈ q.2, 0 ≤ k ∧ k < (q.1.length : Int)
  | [], R, ns, q, h, hR, hn => by
    rw [nextS] at h
    cases h
    exact ⟨Nat.le_refl _, hR, rfl, hn⟩
  | m :: r, R, ns, q, h, hR, hn => by
    rw [nextS] at h
    obtain ⟨y, hy, h⟩ := Option.bind_eq_some_iff.mp h
    split at h
    case isFalse => cases h
    rename_i hl
    have hlen := addS_len y R
    have hp := posS_lt y R
    obtain ⟨h1, h2, h3, h4⟩ := nextS_ok r _ _ q h (by omega) (fun k hk => by
      rcases List.mem_append.1 hk with hk | hk
      · have := hn k hk
        omega
      · rw [List.mem_singleton] at hk
        omega)
    refine ⟨by omega, h2, ?_, h4⟩
    rw [h3, List.length_append, List.length_singleton, List.length_cons]
    omega
theorem reachC_ok {M : ByteArray → Option (List S83)} : ∀ (k i : Nat) (R : List ByteArray) (N : List (List Int)) (RN : List ByteArray × List (List Int)), reachC M k i R N = some RN → N.length = i → i ≤ R.length → R.length ≤ 1000000 → (∀ row ∈ N, row.length ≤ 1000000 ∧ ∀ x ∈ row, 0 ≤ x ∧ x < (R.length : Int)) →
    RN.2.length = RN.1.length ∧ RN.1.length ≤ 1000000 ∧ R.length ≤ RN.1.length ∧ ∀ row ∈ RN.2, row.length ≤ 1000000 ∧ ∀ x ∈ row, 0 ≤ x ∧ x < (RN.1.length : Int)
  | 0, _, _, _, _, h, _, _, _, _ => by cases h
  | k + 1, i, R, N, RN, h, hN, hi, hR, hr => by
    rw [reachC] at h
    split at h
    · obtain ⟨ms, _, h⟩ := Option.bind_eq_some_iff.mp h
      split at h
      case isFalse => cases h
      rename_i hml
      obtain ⟨q, hq, h⟩ := Option.bind_eq_some_iff.mp h
      obtain ⟨h1, h2, h3, h4⟩ := nextS_ok ms R [] q hq hR (by simp)
      obtain ⟨g1, g2, g3, g4⟩ := reachC_ok k (i + 1) q.1 (N ++ [q.2]) RN h (by simp [hN]) (by omega) h2 (fun row hrow => by
        rcases List.mem_append.1 hrow with hrow | hrow
        · have := hr row hrow
          exact ⟨this.1, fun x hx => by have := this.2 x hx; omega⟩
        · rw [List.mem_singleton] at hrow
          subst hrow
          refine ⟨?_, h4⟩
          rw [h3, List.length_nil]
          omega)
      exact ⟨g1, g2, by omega, g4⟩
    · cases h
      exact ⟨show N.length = R.length by omega, hR, Nat.le_refl _, hr⟩
/-- the rings that are reached, and the places behind their moves -/
def ringG (KM K : Nat) (a : ByteArray) : Option (List ByteArray × List (List Int)) := reachC (fun s => spec_ciMoves.f KM s) K 0 [a] []
theorem ringG_ok {KM K : Nat} {a : ByteArray} {RN : List ByteArray × List (List Int)} (h : ringG KM K a = some RN) : RN.2.length = RN.1.length ∧ RN.1.length ≤ 1000000 ∧ 1 ≤ RN.1.length ∧ ∀ row ∈ RN.2, row.length ≤ 1000000 ∧ ∀ x ∈ row, 0 ≤ x ∧ x < (RN.1.length : Int) := by
  have := reachC_ok K 0 [a] [] RN h rfl (by simp) (by simp) (by simp)
  exact this
def pathG (KM K : Nat) (a c : ByteArray) : Option ((List ByteArray × List (List Int)) × Option (List Int)) :=
  (ringG KM K a).bind fun RN => if posS c RN.1 < RN.1.length then ((toT RN.2 K 1 (far0 RN.1.length (posS c RN.1))).bind fun F => some (RN, some F)) else some (RN, none)
theorem toT_len {N : List (List Int)} : ∀ (k d : Nat) (far F : List Int), toT N k d far = some F → F.length = far.length
  | 0, _, _, _, h => by cases h
  | k + 1, d, far, F, h => by
    rw [toT] at h
    split at h
    case isFalse => cases h
    split at h
    · rw [toT_len k _ _ F h, roundT_len]
    · cases h
      rw [roundT_len]
theorem roundT_most {d : Nat} (hd : d < 1000000) : ∀ (rows : List (List Int)) (i : Nat) (far : List Int) (b : Bool), (∀ x ∈ far, x < 1000000) → ∀ x ∈ (roundT d i rows far b).1, x < 1000000
  | [], _, _, _, h => h
  | row :: rest, i, far, b, h => by
    rw [roundT]
    split
    · exact roundT_most hd rest (i + 1) far b h
    · split
      · refine roundT_most hd rest (i + 1) _ true (fun x hx => ?_)
        rcases List.mem_or_eq_of_mem_set hx with hx | rfl
        · exact h x hx
        · omega
      · exact roundT_most hd rest (i + 1) far b h
theorem toT_most {N : List (List Int)} : ∀ (k d : Nat) (far F : List Int), toT N k d far = some F → (∀ x ∈ far, x < 1000000) → ∀ x ∈ F, x < 1000000
  | 0, _, _, _, h, _ => by cases h
  | k + 1, d, far, F, h, hf => by
    rw [toT] at h
    split at h
    case isFalse => cases h
    rename_i hd
    split at h
    · exact toT_most k _ _ F h (roundT_most hd N 0 far false hf)
    · cases h
      exact roundT_most hd N 0 far false hf
theorem far0_most (n v : Nat) : ∀ x ∈ far0 n v, x < 1000000 := fun x hx => by
  unfold far0 at hx
  rcases List.mem_or_eq_of_mem_set hx with hx | rfl
  · have := (List.mem_replicate.1 hx).2
    omega
  · decide
theorem pathG_len {KM K : Nat} {a c : ByteArray} {RN : List ByteArray × List (List Int)} {F : List Int} (h : pathG KM K a c = some (RN, some F)) : ringG KM K a = some RN ∧ F.length = RN.1.length := by
  unfold pathG at h
  obtain ⟨RN', hr, h⟩ := Option.bind_eq_some_iff.mp h
  split at h
  · obtain ⟨F', hF, h⟩ := Option.bind_eq_some_iff.mp h
    cases h
    refine ⟨hr, ?_⟩
    rw [toT_len _ _ _ _ hF]
    simp [far0]
  · cases h
theorem pathG_most {KM K : Nat} {a c : ByteArray} {RN : List ByteArray × List (List Int)} {F : List Int} (h : pathG KM K a c = some (RN, some F)) : ∀ x ∈ F, x < 1000000 := by
  unfold pathG at h
  obtain ⟨RN', hr, h⟩ := Option.bind_eq_some_iff.mp h
  split at h
  · obtain ⟨F', hF, h⟩ := Option.bind_eq_some_iff.mp h
    cases h
    exact toT_most _ _ _ _ hF (far0_most _ _)
  · cases h
set_option maxHeartbeats 4000000 in
set_option maxRecDepth 1000000 in
theorem spec_ciPath.walk (KM K : Nat) (a c : ByteArray) (RN : List ByteArray × List (List Int)) (oF : Option (List Int)) (w : World) (h : pathG KM K a c = some (RN, oF)) :
    Calls Tryd.prog 64 #[.string a, .string c] w fun e w' => (∃ G v0 v1 vf, e = .returned (.tuple #[.pointer (some ⟨G, 0, none⟩), vf, .bool oF.isSome]) ∧ Gr w.heap.size w' G v0 v1 RN.1 RN.2 ∧ Kd.R (Kd.int .i64) 3 w' w.heap.size T_ vf (oF.getD [])) ∧ Below w.heap.size w w' := by
  unfold pathG at h
  obtain ⟨RN', hr, h⟩ := Option.bind_eq_some_iff.mp h
  have hRN : RN' = RN := by
    split at h
    · obtain ⟨F, _, h⟩ := Option.bind_eq_some_iff.mp h
      cases h
      rfl
    · cases h
      rfl
  subst hRN
  obtain ⟨o1, o2, o3, o4⟩ := ringG_ok hr
  have HH := Lib.hid h
  have HO := Aside0.mk o4
  clear h o4
  obtain ⟨R, N⟩ := RN'
  replace o1 : N.length = R.length := o1
  replace o2 : R.length ≤ 1000000 := o2
  replace o3 : 1 ≤ R.length := o3
  go_enter Tryd.func64, Tryd.ntmps64
  go_wp2_with (first
    | (go_at_call 48; refine (spec_ciReach.walk KM K a (R, N) _ hr).mono ?_; rintro e1 W1 ⟨G, v0, v1, rfl, hX⟩; have HB := Aside0.mk hX.B; have HG := Aside0.mk hX.gr; obtain ⟨g0, c0, hu0⟩ := R_form hX.r0 (show 0 < R.length by omega); subst hu0; have hc0 : W1.cell? ⟨G, 0, none⟩ = some (.slice (some ⟨g0, 0, none⟩) R.length c0) := (blk_cell hX.p 0).trans rfl; clear hX hr))
  clear hc0
  go_loopw [17] (fun x17 wr => ∃ i : Nat, i ≤ R.length ∧ x17 = .int .i64 (i : Int) ∧ i ≤ posS c R ∧ wr = W1) (fun x17 _ => R.length - (RowKit.intOf x17).toNat)
  case atStart => exact ⟨0, Nat.zero_le _, rfl, Nat.zero_le _, rfl⟩
  case round =>
    obtain ⟨i, hi, rfl, hp, rfl⟩ := hrel
    by_cases hil : i < R.length
    · have hdec : decide ((i : Int) < (R.length : Int)) = true := decide_eq_true (by omega)
      have hi0 : (0 : Int) ≤ (i : Int) := Int.natCast_nonneg _
      have hx := R_scell HG.out.r0 (i : Int) (by omega) (show (i : Int) < ((R.length : Nat) : Int) by omega)
      rw [Int.toNat_natCast] at hx
      cases he : ((rdOf ByteArray.empty R (i : Int)).toList == c.toList) with
      | true =>
        have hpe := pos_at hil hp he
        have h := HH.out
        rw [if_pos (show posS c R < R.length by omega)] at h
        simp only [hpe] at h
        obtain ⟨F, hF, h⟩ := Option.bind_eq_some_iff.mp h
        obtain rfl := (Prod.ext_iff.1 (Option.some.inj h)).2
        have HF := Lib.hid hF
        clear h HH hF
        go_wp2_with (first
          | (go_at_call 65; refine (spec_ciGraph_to.walk K R N F G w.heap.size _ _ i wr HG.out HB.out.size hil (by omega) HO.out (by omega) HF.out).mono ?_; rintro e2 W2 ⟨⟨vf, rfl, hRf, hFl⟩, hb2⟩))
        go_ret3
        exact ⟨⟨G, _, _, vf, rfl, HG.out.up hb2, Kd.R_lower hRf HB.out.size⟩, below_step HB.out hb2⟩
      | false =>
        have hpe := pos_step hil hp he
        go_wp2
        exact ⟨⟨i + 1, by omega, rfl, hpe, by trivial⟩, by simp [RowKit.intOf]; omega⟩
    · obtain rfl : i = R.length := by omega
      have hdec : decide ((R.length : Int) < (R.length : Int)) = false := decide_eq_false (by omega)
      have h := HH.out
      rw [if_neg (show ¬ posS c R < R.length by omega)] at h
      obtain rfl := (Prod.ext_iff.1 (Option.some.inj h)).2
      clear h HH
      go_wp2
      go_ret3
      exact ⟨⟨G, _, _, .slice none 0 0, rfl, HG.out, Kd.R_nil _ _ _ _ _⟩, HB.out⟩
end
def spec_ciPath.f (a0 : Int) : Option (Int) := none
theorem spec_ciPath.calls : True := trivial


end Go.Proofs.YtjgijaocinpkhaaDoor.XV
