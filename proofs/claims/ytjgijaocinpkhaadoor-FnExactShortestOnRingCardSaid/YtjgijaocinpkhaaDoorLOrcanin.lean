/- The cells of a move on a ring: for all rings. -/

import Derived.Test.YtjgijaocinpkhaaDoorLOrgoal
namespace Go.Proofs.YtjgijaocinpkhaaDoor.XO
set_option linter.unusedVariables false
set_option linter.unusedSimpArgs false
open Go Go.RowKit Go.Proofs.YtjgijaocinpkhaaDoorW.PrintWords Go.Proofs.YtjgijaocinpkhaaDoorB

theorem rgoal_46 {a : ByteArray} {f t : Int} (h : rgoal a f = some t) : bt a t = 46 ∧ (bt a f = 84 ∨ bt a f = 70) := by
  unfold rgoal at h
  repeat' split at h
  all_goals first | (cases h; done) | (injection h with h; subst h; first | exact ⟨by assumption, .inl (by assumption)⟩ | exact ⟨by assumption, .inr (by assumption)⟩)
theorem rcan_in {a : ByteArray} {f t : Int} (h : rcan a f t = true) : 0 ≤ f ∧ f < (a.size : Int) ∧ 0 ≤ t ∧ t < (a.size : Int) ∧ f ≠ t := by
  unfold rcan at h
  simp only [Bool.and_eq_true, decide_eq_true_eq, beq_iff_eq] at h
  obtain ⟨⟨f0, f1⟩, hg⟩ := h
  obtain ⟨t0, t1⟩ := rgoal_in f0 f1 hg
  refine ⟨f0, f1, t0, t1, fun e => ?_⟩
  subst e
  have h2 := rgoal_46 hg
  omega
end Go.Proofs.YtjgijaocinpkhaaDoor.XO
