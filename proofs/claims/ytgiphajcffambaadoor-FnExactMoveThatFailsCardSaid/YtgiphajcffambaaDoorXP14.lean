/- The Lean functions that the Go functions of this seat compute, each with the proof that the Go function computes it, for every input (laws: FnExactPlayMoves, FnExactMoveThatFails, FnExactPlayOnRing, FnExactPlayByRule). Conditions: none beyond those that each theorem names. Written by a program of this session over the kit's printer. -/
import Derived.Test.YtgiphajcffambaaDoorXP0
import Derived.Test.YtgiphajcffambaaDoorXP9
import Derived.Test.YtgiphajcffambaaDoorXP10
namespace Go.Proofs.YtgiphajcffambaaDoor.XP
open Go.RowKit Go.Proofs.YtgiphajcffambaaDoorW.PrintWords Go.Proofs.YtgiphajcffambaaDoorW.PrintLast Go.Proofs.YtgiphajcffambaaDoorW.PrintMore
attribute [local go_sem] max2_int min2_int max_two min_two max_three min_three max_four min_four   -- for this text's walks alone
attribute [local go_sem] Lib.run_min_strs Go.Proofs.YtgiphajcffambaaDoorXW.run_min2_strs Go.Proofs.YtgiphajcffambaaDoorXW.run_int_string
set_option linter.unusedVariables false
set_option linter.unusedSimpArgs false

/-! ### impl_MoveThatFails: function 18 (given) -/
section
open Go Go.RowKit Go.Lib Go.Proofs.YtgiphajcffambaaDoorW.PrintWords Go.Proofs.YtgiphajcffambaaDoorW.PrintLast
theorem impl_MoveThatFails.pays (w : World) : ∀ (W : World) (s : ByteArray) (f t : Int) (b : Bool), Below w.heap.size w W → impl_can.f s f t = some b → Calls Tryd.prog 49 (#[.string s, .agg #[.int .i64 f, .int .i64 t]] ++ #[]) W fun e W' => e = .returned (.bool b) ∧ Below W.heap.size W W' :=
  fun W s f t b _ h => impl_can.calls  s f t b W h
theorem impl_MoveThatFails.enters : Enters Tryd.prog 49 := enters_of Tryd.func49 (by kernel_rfl) rfl
set_option maxHeartbeats 4000000 in
set_option maxRecDepth 1000000 in
theorem impl_MoveThatFails.no_ (a : ByteArray) (A : Option Addr) (cap : Nat) (l : List S46) (w : World) (hI : impl_IsLine.f a = some false) :
    Calls Tryd.prog 18 #[.string a, .slice A l.length cap] w fun e w' => e = .returned (.tuple #[.int .i64 0, .bool false]) ∧ Below w.heap.size w w' := by
  go_enter Tryd.func18, Tryd.ntmps18
  go_wp2_with (first | (go_at_call 48; refine (impl_IsLine.calls a false _ hI).mono ?_; rintro e w1 ⟨rfl, hb1⟩))
  go_ret2
  exact ⟨rfl, hb1⟩
set_option maxHeartbeats 4000000 in
set_option maxRecDepth 1000000 in
theorem impl_MoveThatFails.long_ (a : ByteArray) (A : Option Addr) (cap : Nat) (l : List S46) (w : World) (hI : impl_IsLine.f a = some true) (hl : 100 < l.length) :
    Calls Tryd.prog 18 #[.string a, .slice A l.length cap] w fun e w' => e = .returned (.tuple #[.int .i64 0, .bool false]) ∧ Below w.heap.size w w' := by
  have hd : decide ((100 : Int) < (l.length : Int)) = true := decide_eq_true (by omega)
  have hd2 : decide (100 < l.length) = true := decide_eq_true hl
  clear hl
  go_enter Tryd.func18, Tryd.ntmps18
  go_wp2_with (first | (go_at_call 48; refine (impl_IsLine.calls a true _ hI).mono ?_; rintro e w1 ⟨rfl, hb1⟩))
  go_ret2
  exact ⟨rfl, hb1⟩
set_option maxHeartbeats 4000000 in
set_option maxRecDepth 1000000 in
theorem impl_MoveThatFails.walk (a : ByteArray) (A : Option Addr) (cap : Nat) (l : List S46) (r1 : ByteArray) (r2 : Int) (w : World) (hI : impl_IsLine.f a = some true) (hl : l.length ≤ 100) (hr : Kd.C k46 w A l.length l) (hp : playL (impl_can.f) l a 0 = some (r1, r2)) :
    Calls Tryd.prog 18 #[.string a, .slice A l.length cap] w fun e w' => e = .returned (if r2 = (l.length : Int) then .tuple #[.int .i64 0, .bool false] else .tuple #[.int .i64 r2, .bool true]) ∧ Below w.heap.size w w' := by
  have hd : decide ((100 : Int) < (l.length : Int)) = false := decide_eq_false (by omega)
  have hd2 : decide (100 < l.length) = false := decide_eq_false (by omega)
  have HR := Aside0.mk hr
  have HL := Lib.hid hl
  clear hr hl
  by_cases hq : r2 = (l.length : Int)
  · rw [if_pos hq]
    have hz : (r2 == (l.length : Int)) = true := by simpa using hq
    clear hq
    go_enter Tryd.func18, Tryd.ntmps18
    go_wp2_with (first
      | (go_at_call 48; refine (impl_IsLine.calls a true _ hI).mono ?_; rintro e w1 ⟨rfl, hb1⟩)
      | (go_at_call 43; refine (impl_played.walk 49 #[] impl_MoveThatFails.enters (impl_can.f) a A cap l r1 r2 _ (impl_MoveThatFails.pays _) (by have := HL.out; omega) (Kd.C_below HR.out hb1) hp).mono ?_; rintro e w2 ⟨rfl, hx⟩; have hb2 := below_step hb1 hx; clear hx))
    go_ret2
    exact ⟨rfl, hb2⟩
  · rw [if_neg hq]
    have hz : (r2 == (l.length : Int)) = false := by simpa using hq
    clear hq
    go_enter Tryd.func18, Tryd.ntmps18
    go_wp2_with (first
      | (go_at_call 48; refine (impl_IsLine.calls a true _ hI).mono ?_; rintro e w1 ⟨rfl, hb1⟩)
      | (go_at_call 43; refine (impl_played.walk 49 #[] impl_MoveThatFails.enters (impl_can.f) a A cap l r1 r2 _ (impl_MoveThatFails.pays _) (by have := HL.out; omega) (Kd.C_below HR.out hb1) hp).mono ?_; rintro e w2 ⟨rfl, hx⟩; have hb2 := below_step hb1 hx; clear hx))
    go_ret2
    exact ⟨rfl, hb2⟩
end
/-- the place of the first move that cannot be made -/
def impl_MoveThatFails.f (a0 : ByteArray) (l1 : List (S46)) : Option (Int × Bool) := (impl_IsLine.f a0).bind fun b => if b = true then (if 100 < l1.length then some ((0 : Int), false) else ((playL (impl_can.f) l1 a0 0).bind fun r => if r.2 = (l1.length : Int) then some (0, false) else some (r.2, true))) else some ((0 : Int), false)
theorem impl_MoveThatFails.calls (a0 : ByteArray) (A1 : Option Addr) (c1 : Nat) (l1 : List (S46)) (r1 : Int) (r2 : Bool) (w : World) (hr1 : Kd.C k46 w A1 l1.length l1) (hc1 : l1.length ≤ c1) (h : impl_MoveThatFails.f a0 l1 = some (r1, r2)) :
    Calls Tryd.prog 18 #[.string a0, .slice A1 l1.length c1] w fun e w' => e = .returned (.tuple #[.int .i64 r1, .bool r2]) ∧ Below w.heap.size w w' := by
  unfold impl_MoveThatFails.f at h
  obtain ⟨b, hb, h⟩ := Option.bind_eq_some_iff.mp h
  cases b with
  | false =>
    rw [if_neg (by decide)] at h
    cases h
    exact impl_MoveThatFails.no_ a0 A1 c1 l1 w hb
  | true =>
    rw [if_pos rfl] at h
    by_cases hl : 100 < l1.length
    · rw [if_pos hl] at h
      cases h
      exact impl_MoveThatFails.long_ a0 A1 c1 l1 w hb hl
    · rw [if_neg hl] at h
      obtain ⟨⟨p, q⟩, hp, h⟩ := Option.bind_eq_some_iff.mp h
      have hw := impl_MoveThatFails.walk a0 A1 c1 l1 p q w hb (by omega) hr1 hp
      by_cases hq : q = (l1.length : Int)
      · rw [if_pos hq] at h hw
        cases h
        exact hw
      · rw [if_neg hq] at h hw
        cases h
        exact hw


end Go.Proofs.YtgiphajcffambaaDoor.XP
