/- Moves that are played on a line, for the reference: for all lines of 1 to 1000 signs and all lists of at most 1000 moves. -/
import Derived.Test.YtgiphajcffambaaXE0
import Derived.Test.YtgiphajcffambaaXE1
import Derived.Test.YtgiphajcffambaaXE3
import Derived.Test.YtgiphajcffambaaXE4
import Derived.Test.YtgiphajcffambaaXE9
import Derived.Test.YtgiphajcffambaaLEgoal
import Derived.Test.YtgiphajcffambaaLEplays
namespace Go.Proofs.Ytgiphajcffambaa.XE
set_option linter.unusedVariables false
set_option linter.unusedSimpArgs false
open Go Go.RowKit Go.Proofs.YtgiphajcffambaaW.PrintWords Go.Proofs.YtgiphajcffambaaB

def canB (a : ByteArray) (f t : Int) : Bool := decide (canP a f t)
def lineI (a : ByteArray) : Prop := 1 ≤ a.size ∧ a.size ≤ 1000
theorem canB_in {a : ByteArray} {f t : Int} (h : canB a f t = true) : 0 ≤ f ∧ f < (a.size : Int) ∧ 0 ≤ t ∧ t < (a.size : Int) ∧ f ≠ t := by
  obtain ⟨f0, f1, t0, t1, _, hd⟩ := of_decide_eq_true h
  exact ⟨f0, f1, t0, t1, by omega⟩
theorem line_can (s : ByteArray) (f t : Int) (h : lineI s) : impl_can.f s f t = some (canB s f t) := impl_can_eq s h.1 h.2 f t
theorem line_made (s : ByteArray) (f t : Int) (h : lineI s) (hc : canB s f t = true) : impl_made.f s f t = some (mv s f t) ∧ lineI (mv s f t) := by
  obtain ⟨f0, f1, t0, t1, ne⟩ := canB_in hc
  exact ⟨impl_made_eq s h.2 f t f0 f1 t0 t1 ne, by unfold lineI; rw [mv_size]; exact h⟩
theorem liPlay_l0 (l : List S35) (hl : l.length ≤ 1000) : ∀ (d i k : Nat) (s : ByteArray), lineI s → i + d = l.length → d + 1 < k →
    spec_liPlay.l0 k s l l (l.length : Int) (i : Int) = some ((stop canB (l.drop i) s i).1, ((stop canB (l.drop i) s i).2 : Int)) := by
  intro d
  induction d with
  | zero =>
    intro i k s hI hi hk
    obtain ⟨k, rfl⟩ : ∃ m, k = m + 1 := ⟨k - 1, by omega⟩
    simp only [spec_liPlay.l0]
    rw [if_neg (by omega), List.drop_of_length_le (by omega), stop, show l.length = i from by omega]
  | succ d ih =>
    intro i k s hI hi hk
    obtain ⟨k, rfl⟩ : ∃ m, k = m + 1 := ⟨k - 1, by omega⟩
    have z1 : (i : Int) < (l.length : Int) := by omega
    have z2 : (0 : Int) ≤ (i : Int) := by omega
    simp only [spec_liPlay.l0]
    rw [if_pos z1, if_pos z2, if_pos z1, rd_drop l i (by omega), w64_succ (n := l.length) (by omega) (by omega)]
    generalize rd_T35 l (i : Int) = m
    rw [show spec_liCan.f k s m.f0 m.f1 = some (canB s m.f0 m.f1) from liCan_eq s hI.1 hI.2 m.f0 m.f1 k (by omega)]
    simp only [Option.bind_some, stop]
    by_cases h : canB s m.f0 m.f1 = true
    · obtain ⟨f0, f1, t0, t1, ne⟩ := canB_in h
      rw [if_pos h, if_pos h, liMake_eq s hI.2 m.f0 m.f1 f0 f1 t0 t1 ne]
      simp only [Option.bind_some]
      exact ih (i + 1) k _ (line_made s _ _ hI h).2 (by omega) (by omega)
    · rw [if_neg h, if_neg h]
theorem liPlay_eq (l : List S35) (hl : l.length ≤ 1000) (s : ByteArray) (hI : lineI s) (k : Nat) (hk : l.length + 1 < k) : spec_liPlay.f k s l = some ((stop canB l s 0).1, ((stop canB l s 0).2 : Int)) := by
  have h := liPlay_l0 l hl l.length 0 k s hI (by omega) hk
  rw [List.drop_zero] at h
  exact h
end Go.Proofs.Ytgiphajcffambaa.XE
