/- Moves that are played on a ring, for the reference and for the program: for all rings and all lists of at most 1000 moves. -/
import Derived.Test.YtgiphajcffambaaDoorXQ0
import Derived.Test.YtgiphajcffambaaDoorXQ2
import Derived.Test.YtgiphajcffambaaDoorXQ3
import Derived.Test.YtgiphajcffambaaDoorXQ4
import Derived.Test.YtgiphajcffambaaDoorLQringcan
import Derived.Test.YtgiphajcffambaaDoorLQplays
namespace Go.Proofs.YtgiphajcffambaaDoor.XQ
set_option linter.unusedVariables false
set_option linter.unusedSimpArgs false
open Go Go.RowKit Go.Proofs.YtgiphajcffambaaDoorW.PrintWords Go.Proofs.YtgiphajcffambaaDoorB

def ringI (a : ByteArray) : Prop := 3 ≤ a.size ∧ a.size ≤ 9 ∧ a.data.toList.all sgn = true
theorem ring_can (s : ByteArray) (f t : Int) (h : ringI s) : impl_canOnRing.f 1000 s f t = some (rcan s f t) := canOnRing_eq s h.1 h.2.1 f t 1000 (by omega)
theorem ring_made (s : ByteArray) (f t : Int) (h : ringI s) (hc : rcan s f t = true) : impl_made.f s f t = some (mv s f t) ∧ ringI (mv s f t) := by
  obtain ⟨f0, f1, t0, t1, ne⟩ := rcan_in hc
  have h9 := h.2.1
  exact ⟨impl_made_eq s (by omega) f t f0 f1 t0 t1 ne, by unfold ringI; rw [mv_size]; exact ⟨h.1, h.2.1, mv_all h.2.2 f t f0 f1⟩⟩
theorem ciPlay_l0 (l : List S46) (hl : l.length ≤ 1000) : ∀ (d i k : Nat) (s : ByteArray), ringI s → i + d = l.length → d + 1 < k →
    spec_PlayOnRing.l0 k s l (l.length : Int) (i : Int) = some (if (stop rcan (l.drop i) s i).2 = l.length then ((stop rcan (l.drop i) s i).1, true) else ((⟨#[]⟩ : ByteArray), false)) := by
  intro d
  induction d with
  | zero =>
    intro i k s hI hi hk
    obtain ⟨k, rfl⟩ : ∃ m, k = m + 1 := ⟨k - 1, by omega⟩
    simp only [spec_PlayOnRing.l0]
    rw [if_neg (by omega), List.drop_of_length_le (by omega), stop, if_pos (by omega)]
  | succ d ih =>
    intro i k s hI hi hk
    obtain ⟨k, rfl⟩ : ∃ m, k = m + 1 := ⟨k - 1, by omega⟩
    have z1 : (i : Int) < (l.length : Int) := by omega
    have z2 : (0 : Int) ≤ (i : Int) := by omega
    have h9 := hI.2.1
    simp only [spec_PlayOnRing.l0]
    rw [if_pos z1, if_pos z2, if_pos z1, rd_drop l i (by omega), w64_succ (n := l.length) (by omega) (by omega)]
    generalize rd_T46 l (i : Int) = m
    rw [ciCan_eq s hI.1 hI.2.1 m.f0 m.f1 k (by omega)]
    simp only [Option.bind_some]
    by_cases h : rcan s m.f0 m.f1 = true
    · obtain ⟨f0, f1, t0, t1, ne⟩ := rcan_in h
      rw [if_pos h, stop_yes h, liMake_eq s (by omega) m.f0 m.f1 f0 f1 t0 t1 ne]
      simp only [Option.bind_some]
      exact ih (i + 1) k _ (ring_made s _ _ hI h).2 (by omega) (by omega)
    · rw [if_neg h, stop_no h, if_neg (by simp; omega)]
end Go.Proofs.YtgiphajcffambaaDoor.XQ
