/- The Lean functions that the Go functions of this seat compute, each with the proof that the Go function computes it, for every input (laws: FnExactIsExchange). Conditions: none beyond those that each theorem names. Written by a program of this session over the kit's printer. -/
import Derived.Test.YtgiphajcffambaaXE0
import Derived.Test.YtgiphajcffambaaXE8
import Derived.Test.YtgiphajcffambaaXE9
import Derived.Test.YtgiphajcffambaaXE10
namespace Go.Proofs.Ytgiphajcffambaa.XE
open Go.RowKit Go.Proofs.YtgiphajcffambaaW.PrintWords Go.Proofs.YtgiphajcffambaaW.PrintLast Go.Proofs.YtgiphajcffambaaW.PrintMore
attribute [local go_sem] max2_int min2_int max_two min_two max_three min_three max_four min_four   -- for this text's walks alone
attribute [local go_sem] Lib.run_min_strs Go.Proofs.YtgiphajcffambaaXW.run_min2_strs Go.Proofs.YtgiphajcffambaaXW.run_int_string
set_option linter.unusedVariables false
set_option linter.unusedSimpArgs false

/-! ### impl_IsExchange: function 9 (given) -/
section
open Go Go.RowKit Go.Lib Go.Proofs.YtgiphajcffambaaW.PrintWords Go.Proofs.YtgiphajcffambaaW.PrintLast
theorem impl_IsExchange.pays (w : World) : ∀ (W : World) (s : ByteArray) (f t : Int) (b : Bool), Below w.heap.size w W → impl_can.f s f t = some b → Calls Try.prog 23 (#[.string s, .agg #[.int .i64 f, .int .i64 t]] ++ #[]) W fun e W' => e = .returned (.bool b) ∧ Below W.heap.size W W' :=
  fun W s f t b _ h => impl_can.calls s f t b W h
theorem impl_IsExchange.enters : Enters Try.prog 23 := enters_of Try.func23 (by kernel_rfl) rfl
set_option maxHeartbeats 4000000 in
set_option maxRecDepth 1000000 in
theorem impl_IsExchange.no_ (a0 a1 a2 : Int) (A : Option Addr) (cap : Nat) (l : List S35) (w : World) (hI : impl_areCounts.f a0 a1 a2 8 = some false) :
    Calls Try.prog 9 #[.int .i64 a0, .int .i64 a1, .int .i64 a2, .slice A l.length cap] w fun e w' => e = .returned (.tuple #[.bool false, .bool false]) ∧ Below w.heap.size w w' := by
  go_enter Try.func9, Try.ntmps9
  go_wp2_with (first
    | (go_at_call 20; refine (impl_areCounts.calls a0 a1 a2 8 false _ hI).mono ?_; rintro e w1 ⟨rfl, hx⟩; have hb1 := hx.below; clear hx))
  go_ret2
  exact ⟨rfl, hb1⟩
set_option maxHeartbeats 4000000 in
set_option maxRecDepth 1000000 in
theorem impl_IsExchange.long_ (a0 a1 a2 : Int) (A : Option Addr) (cap : Nat) (l : List S35) (w : World) (hI : impl_areCounts.f a0 a1 a2 8 = some true) (hl : 100 < l.length) :
    Calls Try.prog 9 #[.int .i64 a0, .int .i64 a1, .int .i64 a2, .slice A l.length cap] w fun e w' => e = .returned (.tuple #[.bool false, .bool false]) ∧ Below w.heap.size w w' := by
  have hd : decide ((100 : Int) < (l.length : Int)) = true := decide_eq_true (by omega)
  have hd2 : decide (100 < l.length) = true := decide_eq_true hl
  clear hl
  go_enter Try.func9, Try.ntmps9
  go_wp2_with (first
    | (go_at_call 20; refine (impl_areCounts.calls a0 a1 a2 8 true _ hI).mono ?_; rintro e w1 ⟨rfl, hx⟩; have hb1 := hx.below; clear hx))
  go_ret2
  exact ⟨rfl, hb1⟩
set_option maxHeartbeats 4000000 in
set_option maxRecDepth 1000000 in
theorem impl_IsExchange.walk (a0 a1 a2 : Int) (A : Option Addr) (cap : Nat) (l : List S35) (s z r1 : ByteArray) (r2 : Int) (w : World) (hI : impl_areCounts.f a0 a1 a2 8 = some true) (hl : l.length ≤ 100) (hr : Kd.C k35 w A l.length l)
    (hf : impl_first.f a0 a1 a2 = some s) (hp : playL impl_can.f l s 0 = some (r1, r2)) (hz : impl_last.f s = some z) :
    Calls Try.prog 9 #[.int .i64 a0, .int .i64 a1, .int .i64 a2, .slice A l.length cap] w fun e w' => e = .returned (.tuple #[.bool (r1.toList == z.toList), .bool true]) ∧ Below w.heap.size w w' := by
  have hd : decide ((100 : Int) < (l.length : Int)) = false := decide_eq_false (by omega)
  have hd2 : decide (100 < l.length) = false := decide_eq_false (by omega)
  have HR := Aside0.mk hr
  have HL := Lib.hid hl
  clear hr hl
  go_enter Try.func9, Try.ntmps9
  go_wp2_with (first
    | (go_at_call 20; refine (impl_areCounts.calls a0 a1 a2 8 true _ hI).mono ?_; rintro e w1 ⟨rfl, hx⟩; have hb1 := hx.below; clear hx)
    | (go_at_call 21; refine (impl_first.calls a0 a1 a2 s _ hf).mono ?_; rintro e w2 ⟨rfl, hx⟩; have hb2 := below_step hb1 hx; clear hx)
    | (go_at_call 22; refine (impl_played.walk 23 #[] impl_IsExchange.enters impl_can.f s A cap l r1 r2 _ (impl_IsExchange.pays _) (by have := HL.out; omega) (Kd.C_below HR.out hb2) hp).mono ?_; rintro e w3 ⟨rfl, hx⟩; have hb3 := below_step hb2 hx; clear hx)
    | (go_at_call 24; refine (impl_last.calls s z _ hz).mono ?_; rintro e w4 ⟨rfl, hx⟩; have hb4 := below_step hb3 hx; clear hx))
  go_ret2
  exact ⟨rfl, hb4⟩
end
/-- whether moves are an exchange -/
def impl_IsExchange.f (a0 a1 a2 : Int) (l3 : List (S35)) : Option (Bool × Bool) := (impl_areCounts.f a0 a1 a2 8).bind fun b => if b = true then (if 100 < l3.length then some (false, false) else ((impl_first.f a0 a1 a2).bind fun s => ((playL impl_can.f l3 s 0).bind fun r => ((impl_last.f s).bind fun z => some (r.1.toList == z.toList, true))))) else some (false, false)
theorem impl_IsExchange.calls (a0 a1 a2 : Int) (A1 : Option Addr) (c1 : Nat) (l1 : List (S35)) (r1 : Bool) (r2 : Bool) (w : World) (hr1 : Kd.C k35 w A1 l1.length l1) (hc1 : l1.length ≤ c1) (h : impl_IsExchange.f a0 a1 a2 l1 = some (r1, r2)) :
    Calls Try.prog 9 #[.int .i64 a0, .int .i64 a1, .int .i64 a2, .slice A1 l1.length c1] w fun e w' => e = .returned (.tuple #[.bool r1, .bool r2]) ∧ Below w.heap.size w w' := by
  unfold impl_IsExchange.f at h
  obtain ⟨b, hb, h⟩ := Option.bind_eq_some_iff.mp h
  cases b with
  | false =>
    rw [if_neg (by decide)] at h
    cases h
    exact impl_IsExchange.no_ a0 a1 a2 A1 c1 l1 w hb
  | true =>
    rw [if_pos rfl] at h
    by_cases hl : 100 < l1.length
    · rw [if_pos hl] at h
      cases h
      exact impl_IsExchange.long_ a0 a1 a2 A1 c1 l1 w hb hl
    · rw [if_neg hl] at h
      obtain ⟨s, hs, h⟩ := Option.bind_eq_some_iff.mp h
      obtain ⟨⟨p, q⟩, hp, h⟩ := Option.bind_eq_some_iff.mp h
      obtain ⟨z, hz, h⟩ := Option.bind_eq_some_iff.mp h
      cases h
      exact impl_IsExchange.walk a0 a1 a2 A1 c1 l1 s z p q w hb (by omega) hr1 hs hp hz


end Go.Proofs.Ytgiphajcffambaa.XE
