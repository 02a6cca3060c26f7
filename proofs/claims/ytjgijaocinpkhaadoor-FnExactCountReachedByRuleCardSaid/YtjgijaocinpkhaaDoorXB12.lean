/- The Lean functions that the Go functions of this seat compute, each with the proof that the Go function computes it, for every input (laws: FnExactCountReachedByRule, FnExactReachByRule). Conditions: none beyond those that each theorem names. Written by a program of this session over the kit's printer. -/
import Derived.Test.YtjgijaocinpkhaaDoorXB0
import Derived.Test.YtjgijaocinpkhaaDoorXB2
import Derived.Test.YtjgijaocinpkhaaDoorXB8
import Derived.Test.YtjgijaocinpkhaaDoorXB11
namespace Go.Proofs.YtjgijaocinpkhaaDoor.XB
open Go.RowKit Go.Proofs.YtjgijaocinpkhaaDoorW.PrintWords Go.Proofs.YtjgijaocinpkhaaDoorW.PrintLast Go.Proofs.YtjgijaocinpkhaaDoorW.PrintMore
attribute [local go_sem] max2_int min2_int max_two min_two max_three min_three max_four min_four   -- for this text's walks alone
attribute [local go_sem] Lib.run_min_strs Go.Proofs.YtjgijaocinpkhaaDoorXW.run_min2_strs Go.Proofs.YtjgijaocinpkhaaDoorXW.run_int_string
set_option linter.unusedVariables false
set_option linter.unusedSimpArgs false

/-! ### impl_CountReachedByRule: function 24 (given) -/
section
open Go Go.RowKit Go.Lib Go.Proofs.YtjgijaocinpkhaaDoorW.PrintWords Go.Proofs.YtjgijaocinpkhaaDoorW.PrintLast Go.Proofs.YtjgijaocinpkhaaDoor.Pm
set_option maxHeartbeats 4000000 in
set_option maxRecDepth 1000000 in
theorem impl_CountReachedByRule.no_ (a : ByteArray) (o b l : Bool) (w : World) (h : impl_isReachLine.f a = some false) :
    Calls Tryd.prog 24 #[.string a, .agg #[.bool o, .bool b, .bool l]] w fun e w' => e = .returned (.tuple #[.int .i64 0, .bool false]) ∧ Below w.heap.size w w' := by
  go_enter Tryd.func24, Tryd.ntmps24
  go_wp2_with (first
    | (go_at_call 57; refine (impl_isReachLine.calls a false _ h).mono ?_; rintro e w1 ⟨rfl, hx⟩; have hb1 := below_step (below_alloc (Below.refl _ _) _) hx))
  go_ret2
  exact ⟨rfl, hb1⟩
set_option maxHeartbeats 4000000 in
set_option maxRecDepth 1000000 in
theorem impl_CountReachedByRule.walk (K : Nat) (a : ByteArray) (o b l : Bool) (E : List PEnt) (w : World) (h : impl_isReachLine.f a = some true) (hE : byRuleO K a o b l = some E) :
    Calls Tryd.prog 24 #[.string a, .agg #[.bool o, .bool b, .bool l]] w fun e w' => e = .returned (.tuple #[.int .i64 (E.length : Int), .bool true]) ∧ Below w.heap.size w w' := by
  have hu := Tryd.underlying67
  have hfl : ∀ (v0 v1 v2 v3 v4 : Value) (w : World), (Instr.field 67 (.agg #[v0, v1, v2, v3, v4]) 0).run Tryd.prog w = .ok v0 w := fun _ _ _ _ _ _ => by kernel_rfl
  go_enter Tryd.func24, Tryd.ntmps24
  go_wp2_with (first
    | (go_at_call 57; refine (impl_isReachLine.calls a true _ h).mono ?_; rintro e w1 ⟨rfl, hx⟩; have hb1 := below_step (below_alloc (Below.refl _ _) _) hx; have hbx := blk_below (blk_new w (.cells #[.bool o, .bool b, .bool l] 32 (0, 0))) hx; have c0 : w1.cell? ⟨w.heap.size, 0, none⟩ = some (.bool o) := (blk_cell hbx 0).trans rfl; have c1 : w1.cell? ⟨w.heap.size, 1, none⟩ = some (.bool b) := (blk_cell hbx 1).trans rfl; have c2 : w1.cell? ⟨w.heap.size, 2, none⟩ = some (.bool l) := (blk_cell hbx 2).trans rfl; clear hx hbx)
    | (go_at_call 58; refine (impl_byRule.walk K a o b l E _ hE).mono ?_; rintro e w2 ⟨v, rfl, hP, hpe, hy⟩; have hb2 := below_step hb1 hy; obtain ⟨bm, v0, v2, v3, v4, rfl, hl, hm, r0, r2, r3, r4, hne⟩ := hP; obtain ⟨A0, k0, z0⟩ := Kd.R_slice r0; rw [nodes_len] at z0; subst z0; clear hm r0 r2 r3 r4 hne hy))
  go_ret2
  exact ⟨rfl, hb2⟩
end
/-- how many texts are reached -/
def impl_CountReachedByRule.f (a0 : ByteArray) (a1_0 a1_1 a1_2 : Bool) : Option (Int × Bool) := (impl_isReachLine.f a0).bind fun r => if r = true then ((byRuleO 100000 a0 a1_0 a1_1 a1_2).bind fun E => some ((E.length : Int), true)) else some (0, false)
theorem impl_CountReachedByRule.calls (a0 : ByteArray) (a1_0 a1_1 a1_2 : Bool) (r1 : Int) (r2 : Bool) (w : World) (h : impl_CountReachedByRule.f a0 a1_0 a1_1 a1_2 = some (r1, r2)) :
    Calls Tryd.prog 24 #[.string a0, .agg #[.bool a1_0, .bool a1_1, .bool a1_2]] w fun e w' => e = .returned (.tuple #[.int .i64 r1, .bool r2]) ∧ Below w.heap.size w w' := by
  unfold impl_CountReachedByRule.f at h
  obtain ⟨r, hr, h⟩ := Option.bind_eq_some_iff.mp h
  cases r with
  | false =>
    rw [if_neg (by decide)] at h
    cases h
    exact impl_CountReachedByRule.no_ a0 _ _ _ w hr
  | true =>
    rw [if_pos rfl] at h
    obtain ⟨E, hE, h⟩ := Option.bind_eq_some_iff.mp h
    cases h
    exact impl_CountReachedByRule.walk 100000 a0 _ _ _ E w hr hE


end Go.Proofs.YtjgijaocinpkhaaDoor.XB
