/- Whether a ring allows a move, for the program: for all rings of 3 to 9 signs and all pairs of numbers. -/
import Derived.Test.YtgiphajcffambaaDoorXQ4
import Derived.Test.YtgiphajcffambaaDoorLQrgoal
import Derived.Test.YtgiphajcffambaaDoorLQcontains
namespace Go.Proofs.YtgiphajcffambaaDoor.XQ
set_option linter.unusedVariables false
set_option linter.unusedSimpArgs false
open Go Go.RowKit Go.Proofs.YtgiphajcffambaaDoorW.PrintWords Go.Proofs.YtgiphajcffambaaDoorB

theorem canOnRing_eq (a : ByteArray) (hs3 : 3 ≤ a.size) (hs : a.size ≤ 9) (f t : Int) (k : Nat) (hk : 20 ≤ k) : impl_canOnRing.f k a f t = some (rcan a f t) := by
  have hl := rmoves_length a
  unfold impl_canOnRing.f
  rw [impl_ringMoves_eq a hs3 hs k hk]
  simp only [Option.bind_some]
  rw [contains_eq _ (by omega) f t k (by omega)]
  simp only [Option.bind_some]
  congr 1
  rw [Bool.eq_iff_iff, decide_eq_true_iff]
  exact rmoves_mem a f t
theorem rgoal_46 {a : ByteArray} {f t : Int} (h : rgoal a f = some t) : bt a t = 46 ∧ (bt a f = 84 ∨ bt a f = 70) := by
  unfold rgoal at h
  repeat' split at h
  all_goals first | (cases h; done) | (injection h with h; subst h; first | exact ⟨by assumption, .inl (by assumption)⟩ | exact ⟨by assumption, .inr (by assumption)⟩)
theorem rcan_in {a : ByteArray} {f t : Int} (h : rcan a f t = true) : 0 ≤ f ∧ f < (a.size : Int) ∧ 0 ≤ t ∧ t < (a.size : Int) ∧ f ≠ t := by
  unfold rcan at h
  simp only [Bool.and_eq_true, decide_eq_true_eq, beq_iff_eq] at h
  obtain ⟨⟨f0, f1⟩, hg⟩ := h
  obtain ⟨t0, t1⟩ := rgoal_in f0 f1 hg
  refine ⟨f0, f1, t0, t1, fun e => ?_⟩
  subst e
  have h2 := rgoal_46 hg
  omega
end Go.Proofs.YtgiphajcffambaaDoor.XQ
