/- Moves that are played by a rule, for the reference and for the program: for all lines of 1 to 10 signs and all lists of at most 1000 moves. -/
import Derived.Test.YtgiphajcffambaaDoorXU0
import Derived.Test.YtgiphajcffambaaDoorXU2
import Derived.Test.YtgiphajcffambaaDoorXU5
import Derived.Test.YtgiphajcffambaaDoorXU7
import Derived.Test.YtgiphajcffambaaDoorLUrulemoves
import Derived.Test.YtgiphajcffambaaDoorLUplays
namespace Go.Proofs.YtgiphajcffambaaDoor.XU
set_option linter.unusedVariables false
set_option linter.unusedSimpArgs false
open Go Go.RowKit Go.Proofs.YtgiphajcffambaaDoorW.PrintWords Go.Proofs.YtgiphajcffambaaDoorB

def reachI (a : ByteArray) : Prop := 1 ≤ a.size ∧ a.size ≤ 10 ∧ a.data.toList.all sgn = true
theorem rule_can (o b l : Bool) (s : ByteArray) (f t : Int) (h : reachI s) : ruleCan o b l s f t = some (bcan s o b l f t) := by
  have h10 := h.2.1
  have hb := bmoves_length s o b l
  unfold ruleCan
  rw [movesBy_eq s h.1 h.2.1 h.2.2 o b l 2000 (by omega)]
  simp only [Option.bind_some]
  rw [contains_eq (bmoves s o b l) (by omega) f t 2000 (by omega), bmoves_can s (by omega)]
theorem rule_made (o b l : Bool) (s : ByteArray) (f t : Int) (h : reachI s) (hc : bcan s o b l f t = true) : impl_made.f s f t = some (mv s f t) ∧ reachI (mv s f t) := by
  have h10 := h.2.1
  obtain ⟨f0, f1, t0, t1, ne⟩ := bcan_in (by omega) hc
  exact ⟨impl_made_eq s (by omega) f t f0 f1 t0 t1 ne, by unfold reachI; rw [mv_size]; exact ⟨h.1, h.2.1, mv_all h.2.2 f t f0 f1⟩⟩
theorem ruPlay_l0 (o b q : Bool) (l : List S46) (hl : l.length ≤ 1000) : ∀ (d i k : Nat) (s : ByteArray), reachI s → i + d = l.length → d + 200 < k →
    spec_PlayByRule.l0 k s l (l.length : Int) (i : Int) o b q = some (if (stop (fun s => bcan s o b q) (l.drop i) s i).2 = l.length then ((stop (fun s => bcan s o b q) (l.drop i) s i).1, true) else ((⟨#[]⟩ : ByteArray), false)) := by
  intro d
  induction d with
  | zero =>
    intro i k s hI hi hk
    obtain ⟨k, rfl⟩ : ∃ m, k = m + 1 := ⟨k - 1, by omega⟩
    simp only [spec_PlayByRule.l0]
    rw [if_neg (by omega), List.drop_of_length_le (by omega), stop, if_pos (by omega)]
  | succ d ih =>
    intro i k s hI hi hk
    obtain ⟨k, rfl⟩ : ∃ m, k = m + 1 := ⟨k - 1, by omega⟩
    have z1 : (i : Int) < (l.length : Int) := by omega
    have z2 : (0 : Int) ≤ (i : Int) := by omega
    have h9 := hI.2.1
    simp only [spec_PlayByRule.l0]
    rw [if_pos z1, if_pos z2, if_pos z1, rd_drop l i (by omega), w64_succ (n := l.length) (by omega) (by omega)]
    generalize rd_T46 l (i : Int) = m
    rw [ruCan_eq s hI.1 hI.2.1 hI.2.2 m.f0 m.f1 o b q k (by omega)]
    simp only [Option.bind_some]
    by_cases h : bcan s o b q m.f0 m.f1 = true
    · obtain ⟨f0, f1, t0, t1, ne⟩ := bcan_in (by omega) h
      rw [if_pos h, stop_yes (c := fun s => bcan s o b q) h, liMake_eq s (by omega) m.f0 m.f1 f0 f1 t0 t1 ne]
      simp only [Option.bind_some]
      exact ih (i + 1) k _ (rule_made o b q s _ _ hI h).2 (by omega) (by omega)
    · rw [if_neg h, stop_no (c := fun s => bcan s o b q) h, if_neg (by simp; omega)]
end Go.Proofs.YtgiphajcffambaaDoor.XU
