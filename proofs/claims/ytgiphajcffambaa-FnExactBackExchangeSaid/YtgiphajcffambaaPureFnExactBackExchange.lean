/- FnExactBackExchange without Go: for all counts and every list of moves that memory holds, the program's BackExchange is the reference's, the list stays as it was, and what was returned is the caller's own. -/
import Derived.Test.YtgiphajcffambaaLBall
import Derived.Test.YtgiphajcffambaaXB0
import Derived.Test.YtgiphajcffambaaXB11
import Derived.Test.YtgiphajcffambaaXB15
import Derived.Test.YtgiphajcffambaaXB17
namespace Go.Proofs.Ytgiphajcffambaa.Pure
set_option linter.unusedVariables false
set_option linter.unusedSimpArgs false
open Go Go.RowKit Go.Proofs.YtgiphajcffambaaW.PrintWords Go.Proofs.Ytgiphajcffambaa.XB Go.Proofs.YtgiphajcffambaaB
theorem back_both (x y z : Int) (r : List S35) (k : Nat) (hk : r.length + 1200 < k) : ∃ (q : List S35) (b : Bool), q.length ≤ 100 ∧ spec_BackExchange.f k x y z r = some (q, b) ∧ impl_BackExchange.f x y z r = some (q, b) := by
  obtain ⟨m, u, p, h1, h2, h3, h4⟩ := exchange_sw x y z r k hk
  unfold spec_BackExchange.f impl_BackExchange.f
  rw [h1, h4]
  simp only [Option.bind_some]
  cases m with
  | false => exact ⟨[], false, by simp, rfl, rfl⟩
  | true =>
    rw [if_pos rfl, h2 rfl]
    simp only [Option.bind_some]
    cases u with
    | false => exact ⟨[], false, by simp, rfl, rfl⟩
    | true =>
      have hl := h3 rfl
      rw [if_pos rfl, swBack_eq r hl k (by omega)]
      exact ⟨r.reverse.map swp, true, by simpa using hl, rfl, rfl⟩
theorem FnExactBackExchange (x y z : Int) (l : List S37) (_ : (Lit.int .i64 x).wf = true) (_ : (Lit.int .i64 y).wf = true) (_ : (Lit.int .i64 z).wf = true) (hl : l.length * 16 ≤ 140737488351232) (_ : True) : ∃ k, laws_FnExactBackExchange.f k x y z l = some true := by
  refine ⟨l.length + 3001, ?_⟩
  unfold laws_FnExactBackExchange.f
  rw [szMove_eq l hl]
  simp only [Option.bind_some]
  by_cases hb : (1048576 : Int) - (l.length : Int) < 0
  · rw [if_pos hb, if_pos (by decide)]
  rw [if_neg hb, if_neg hb]
  obtain ⟨r, hr, hk⟩ := toMoveS_eq l (by omega)
  obtain ⟨q, b, hq, h1, h2⟩ := back_both x y z r (l.length + 3001) (by omega)
  rw [hk _ (by omega)]
  simp only [Option.bind_some]
  rw [h1]
  simp only [Option.bind_some]
  rw [h2]
  simp only [Option.bind_some]
  rw [eqMoveS_same q (by omega) _ (by omega)]
  simp only [Option.bind_some, if_true, bne_self_eq_false]
  simp only [laws_FnExactBackExchange.j0]
  rw [if_neg (by decide), hk _ (by omega)]
  simp only [Option.bind_some]
  rw [eqMoveS_same r (by omega) _ (by omega)]
  simp only [Option.bind_some, if_true]
  obtain ⟨y1, hm1, hy1, hj1⟩ := markMoveS_eq r (by omega) (l.length + 3000) (by omega)
  rw [hm1]
  simp only [Option.bind_some]
  rw [if_neg (by omega), eqMoveS_same q (by omega) _ (by omega)]
  simp only [Option.bind_some, if_true, bne_self_eq_false]
  simp only [laws_FnExactBackExchange.j1]
  rw [if_neg (by decide)]
  obtain ⟨y2, hm2, hy2, hj2⟩ := markMoveS_eq q (by omega) (l.length + 2999) (by omega)
  rw [hm2]
  simp only [Option.bind_some]
  rw [heldMoveS_eq y2 (by omega) (fun j h => hj2 j (by omega)) _ (by omega)]
  simp only [Option.bind_some]
  rw [if_neg (by omega), if_pos (by omega), hk _ (by omega)]
  simp only [Option.bind_some]
  rw [h2]
  simp only [Option.bind_some]
  rw [eqMoveS_same q (by omega) _ (by omega)]
  simp only [Option.bind_some, if_true, bne_self_eq_false]
  simp only [laws_FnExactBackExchange.j2]
  rw [if_neg (by decide), heldMoveS_eq y2 (by omega) (fun j h => hj2 j (by omega)) _ (by omega)]
  simp only [Option.bind_some]
  rw [if_neg (by omega), if_pos (by omega)]
end Go.Proofs.Ytgiphajcffambaa.Pure
