/- The Lean functions that the Go functions of this seat compute, each with the proof that the Go function computes it, for every input (laws: FnExactCountReachedByRule, FnExactReachByRule). Conditions: none beyond those that each theorem names. Written by a program of this session over the kit's printer. -/
import Derived.Test.YtjgijaocinpkhaaDoorXB0
import Derived.Test.YtjgijaocinpkhaaDoorXB1
import Derived.Test.YtjgijaocinpkhaaDoorXB6
namespace Go.Proofs.YtjgijaocinpkhaaDoor.XB
open Go.RowKit Go.Proofs.YtjgijaocinpkhaaDoorW.PrintWords Go.Proofs.YtjgijaocinpkhaaDoorW.PrintLast Go.Proofs.YtjgijaocinpkhaaDoorW.PrintMore
attribute [local go_sem] max2_int min2_int max_two min_two max_three min_three max_four min_four   -- for this text's walks alone
attribute [local go_sem] Lib.run_min_strs Go.Proofs.YtjgijaocinpkhaaDoorXW.run_min2_strs Go.Proofs.YtjgijaocinpkhaaDoorXW.run_int_string
set_option linter.unusedVariables false
set_option linter.unusedSimpArgs false

/-! ### spec_CountReachedByRule: function 23 (given) -/
section
open Go Go.RowKit Go.Lib Go.Proofs.YtjgijaocinpkhaaDoorW.PrintWords Go.Proofs.YtjgijaocinpkhaaDoorW.PrintLast Go.Proofs.YtjgijaocinpkhaaDoor.Pm
set_option maxHeartbeats 4000000 in
set_option maxRecDepth 1000000 in
theorem spec_CountReachedByRule.no_ (k : Nat) (a : ByteArray) (o b l : Bool) (w : World) (h : spec_reFew.f k a = some false) :
    Calls Tryd.prog 23 #[.string a, .agg #[.bool o, .bool b, .bool l]] w fun e w' => e = .returned (.tuple #[.int .i64 0, .bool false]) ∧ Below w.heap.size w w' := by
  go_enter Tryd.func23, Tryd.ntmps23
  go_wp2_with (first
    | (go_at_call 55; refine (spec_reFew.calls k a false _ h).mono ?_; rintro e w1 ⟨rfl, m1, rfl⟩; have hb1 := pw_below_drewN (below_alloc (Below.refl w.heap.size w) (.cells #[.bool o, .bool b, .bool l] 32 (0, 0))) m1))
  go_ret2
  exact ⟨rfl, hb1⟩
set_option maxHeartbeats 4000000 in
set_option maxRecDepth 1000000 in
theorem spec_CountReachedByRule.walk (k : Nat) (a : ByteArray) (o b l : Bool) (r1 : List ByteArray) (r2 : List Int) (w : World) (h : spec_reFew.f k a = some true) (hE : spec_ruReach.f a o b l = some (r1, r2)) :
    Calls Tryd.prog 23 #[.string a, .agg #[.bool o, .bool b, .bool l]] w fun e w' => e = .returned (.tuple #[.int .i64 (r1.length : Int), .bool true]) ∧ Below w.heap.size w w' := by
  have hu := Tryd.underlying72
  have hfl : ∀ (v0 v1 : Value) (w : World), (Instr.field 72 (.agg #[v0, v1]) 0).run Tryd.prog w = .ok v0 w := fun _ _ _ => by kernel_rfl
  go_enter Tryd.func23, Tryd.ntmps23
  go_wp2_with (first
    | (go_at_call 55; refine (spec_reFew.calls k a true _ h).mono ?_; clear h; rintro e w1 ⟨rfl, m1, rfl⟩; have hb1 := pw_below_drewN (below_alloc (Below.refl w.heap.size w) (.cells #[.bool o, .bool b, .bool l] 32 (0, 0))) m1; have hbx := blk_below (blk_new w (.cells #[.bool o, .bool b, .bool l] 32 (0, 0))) (pw_below_drewN (Below.refl (w.alloc (.cells #[.bool o, .bool b, .bool l] 32 (0, 0))).heap.size _) m1); generalize (w.alloc (.cells #[.bool o, .bool b, .bool l] 32 (0, 0))).drewN m1 = w1 at *; have c0 : w1.cell? ⟨w.heap.size, 0, none⟩ = some (.bool o) := (blk_cell hbx 0).trans rfl; have c1 : w1.cell? ⟨w.heap.size, 1, none⟩ = some (.bool b) := (blk_cell hbx 1).trans rfl; have c2 : w1.cell? ⟨w.heap.size, 2, none⟩ = some (.bool l) := (blk_cell hbx 2).trans rfl; clear hbx)
    | (go_at_call 56; refine (spec_ruReach.calls a o b l r1 r2 _ hE).mono ?_; rintro e w2 ⟨v0, v1, rfl, q0, q1, hy⟩; have hb2 := below_step hb1 hy; obtain ⟨A0, k0, z0⟩ := Kd.R_slice q0; subst z0; clear q0 q1 hy))
  go_ret2
  exact ⟨rfl, hb2⟩
end
/-- how many texts are reached -/
def spec_CountReachedByRule.f (k : Nat) (a0 : ByteArray) (a1_0 a1_1 a1_2 : Bool) : Option (Int × Bool) := (spec_reFew.f k a0).bind fun r => if r = true then ((spec_ruReach.f a0 a1_0 a1_1 a1_2).bind fun E => some ((E.1.length : Int), true)) else some (0, false)
theorem spec_CountReachedByRule.mono : ∀ a0 a1_0 a1_1 a1_2 k, LeO (spec_CountReachedByRule.f k a0 a1_0 a1_1 a1_2) (spec_CountReachedByRule.f (k + 1) a0 a1_0 a1_1 a1_2) := by
  intro a0 a1_0 a1_1 a1_2 k
  unfold spec_CountReachedByRule.f
  exact LeO.bind (spec_reFew.mono _ _) (fun _ => LeO.refl _)
theorem spec_CountReachedByRule.calls (k : Nat) (a0 : ByteArray) (a1_0 a1_1 a1_2 : Bool) (r1 : Int) (r2 : Bool) (w : World) (h : spec_CountReachedByRule.f k a0 a1_0 a1_1 a1_2 = some (r1, r2)) :
    Calls Tryd.prog 23 #[.string a0, .agg #[.bool a1_0, .bool a1_1, .bool a1_2]] w fun e w' => e = .returned (.tuple #[.int .i64 r1, .bool r2]) ∧ Below w.heap.size w w' := by
  unfold spec_CountReachedByRule.f at h
  obtain ⟨r, hr, h⟩ := Option.bind_eq_some_iff.mp h
  cases r with
  | false =>
    rw [if_neg (by decide)] at h
    cases h
    exact spec_CountReachedByRule.no_ k a0 _ _ _ w hr
  | true =>
    rw [if_pos rfl] at h
    obtain ⟨⟨E1, E2⟩, hE, h⟩ := Option.bind_eq_some_iff.mp h
    cases h
    exact spec_CountReachedByRule.walk k a0 _ _ _ E1 E2 w hr hE


end Go.Proofs.YtjgijaocinpkhaaDoor.XB
