/- FnExactIsOwnBack without Go: for all counts and every list of moves that memory holds, the program's IsOwnBack is the reference's, and the list stays as it was. -/
import Derived.Test.YtgiphajcffambaaLBall
import Derived.Test.YtgiphajcffambaaXB0
import Derived.Test.YtgiphajcffambaaXB15
import Derived.Test.YtgiphajcffambaaXB18
import Derived.Test.YtgiphajcffambaaXB19
import Derived.Test.YtgiphajcffambaaXB20
import Derived.Test.YtgiphajcffambaaXB3
namespace Go.Proofs.Ytgiphajcffambaa.Pure
set_option linter.unusedVariables false
set_option linter.unusedSimpArgs false
open Go Go.RowKit Go.Proofs.YtgiphajcffambaaW.PrintWords Go.Proofs.Ytgiphajcffambaa.XB Go.Proofs.YtgiphajcffambaaB
theorem own_l0 (r q : List S35) (hl : q.length = r.length) (h2 : r.length ≤ 100) : ∀ (d i k : Nat), i + d = r.length → d < k → ∃ b, spec_IsOwnBack.l0 k r q (q.length : Int) (i : Int) = some (b, true) ∧ impl_Move.l0 k q r (q.length : Int) (i : Int) = some b := by
  intro d
  induction d with
  | zero =>
    intro i k hi hk
    obtain ⟨k, rfl⟩ : ∃ m, k = m + 1 := ⟨k - 1, by omega⟩
    simp only [spec_IsOwnBack.l0, impl_Move.l0]
    rw [if_neg (by omega), if_neg (by omega)]
    exact ⟨true, rfl, rfl⟩
  | succ d ih =>
    intro i k hi hk
    obtain ⟨k, rfl⟩ : ∃ m, k = m + 1 := ⟨k - 1, by omega⟩
    obtain ⟨b, e1, e2⟩ := ih (i + 1) k (by omega) (by omega)
    cases hc : (!(((rd_T35 q (i : Int)).f0) == ((rd_T35 r (i : Int)).f0)) || (!(((rd_T35 q (i : Int)).f1) == ((rd_T35 r (i : Int)).f1)))) with
    | true =>
      refine ⟨false, ?_, ?_⟩
      · simp only [spec_IsOwnBack.l0]
        rw [if_pos (by omega), if_pos (by omega), if_pos (by omega), if_pos (by omega), hc, if_pos rfl]
      · simp only [impl_Move.l0]
        rw [if_pos (by omega), if_pos (by omega), if_pos (by omega), if_pos (by omega), hc, if_pos rfl]
    | false =>
      refine ⟨b, ?_, ?_⟩
      · simp only [spec_IsOwnBack.l0]
        rw [if_pos (by omega), if_pos (by omega), if_pos (by omega), if_pos (by omega), hc, if_neg (by decide), w64_succ (n := r.length) (by omega) (by omega)]
        exact e1
      · simp only [impl_Move.l0]
        rw [if_pos (by omega), if_pos (by omega), if_pos (by omega), if_pos (by omega), hc, if_neg (by decide), w64_succ (n := r.length) (by omega) (by omega)]
        exact e2
theorem own_both (x y z : Int) (r : List S35) (k : Nat) (hk : r.length + 1200 < k) : ∃ q, spec_IsOwnBack.f (k + 1) x y z r = some q ∧ impl_IsOwnBack.f k x y z r = some q := by
  obtain ⟨m, u, p, h1, h2, h3, h4⟩ := exchange_sw x y z r (k + 1) (by omega)
  unfold spec_IsOwnBack.f impl_IsOwnBack.f impl_BackExchange.f
  rw [h1, h4]
  simp only [Option.bind_some]
  cases m with
  | false => simp only [spec_IsOwnBack.j0]; exact ⟨(false, false), rfl, rfl⟩
  | true =>
    rw [if_pos rfl, h2 rfl]
    simp only [Option.bind_some, spec_IsOwnBack.j0]
    cases u with
    | false => exact ⟨(false, false), rfl, rfl⟩
    | true =>
      have hl := h3 rfl
      rw [if_neg (by decide), swBack_eq r hl k (by omega)]
      simp only [Option.bind_some, Bool.true_and, if_true]
      unfold impl_Move.f
      rw [if_pos (by simp)]
      obtain ⟨b, e1, e2⟩ := own_l0 r (r.reverse.map swp) (by simp) hl r.length 0 k (by omega) (by omega)
      rw [show (0 : Int) = ((0 : Nat) : Int) from rfl, e1, e2]
      exact ⟨_, rfl, rfl⟩
theorem FnExactIsOwnBack (x y z : Int) (l : List S37) (_ : (Lit.int .i64 x).wf = true) (_ : (Lit.int .i64 y).wf = true) (_ : (Lit.int .i64 z).wf = true) (hl : l.length * 16 ≤ 140737488351232) (_ : True) : ∃ k, laws_FnExactIsOwnBack.f k x y z l = some true := by
  refine ⟨l.length + 3001, ?_⟩
  unfold laws_FnExactIsOwnBack.f
  rw [szMove_eq l hl]
  simp only [Option.bind_some]
  by_cases hb : (1048576 : Int) - (l.length : Int) < 0
  · rw [if_pos hb, if_pos (by decide)]
  rw [if_neg hb, if_neg hb]
  obtain ⟨r, hr, hk⟩ := toMoveS_eq l (by omega)
  obtain ⟨⟨q, b⟩, h1, h2⟩ := own_both x y z r (l.length + 3000) (by omega)
  have h3 := impl_IsOwnBack.mono x y z r (l.length + 3000) _ h2
  rw [hk _ (by omega)]
  simp only [Option.bind_some]
  rw [h1]
  simp only [Option.bind_some]
  rw [h3]
  simp only [Option.bind_some, bne_self_eq_false]
  rw [if_neg (by decide)]
  simp only [laws_FnExactIsOwnBack.j0]
  rw [if_neg (by decide)]
  exact toMoveS_same hk hr (by omega) _ (by omega)
end Go.Proofs.Ytgiphajcffambaa.Pure
