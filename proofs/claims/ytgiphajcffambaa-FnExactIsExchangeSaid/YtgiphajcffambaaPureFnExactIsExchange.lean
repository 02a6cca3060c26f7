/- FnExactIsExchange without Go: for all counts and every list of moves that memory holds, the program's IsExchange is the reference's, and the list stays as it was. -/
import Derived.Test.YtgiphajcffambaaLEexchange
import Derived.Test.YtgiphajcffambaaXE0
import Derived.Test.YtgiphajcffambaaXE13
namespace Go.Proofs.Ytgiphajcffambaa.Pure
set_option linter.unusedVariables false
set_option linter.unusedSimpArgs false
open Go Go.RowKit Go.Proofs.YtgiphajcffambaaW.PrintWords Go.Proofs.Ytgiphajcffambaa.XE Go.Proofs.YtgiphajcffambaaB
theorem FnExactIsExchange (x y z : Int) (l : List S37) (_ : (Lit.int .i64 x).wf = true) (_ : (Lit.int .i64 y).wf = true) (_ : (Lit.int .i64 z).wf = true) (hl : l.length * 16 ≤ 140737488351232) (_ : True) : ∃ k, laws_FnExactIsExchange.f k x y z l = some true := by
  refine ⟨l.length + 3001, ?_⟩
  unfold laws_FnExactIsExchange.f
  rw [szMove_eq l hl]
  simp only [Option.bind_some]
  by_cases hb : (1048576 : Int) - (l.length : Int) < 0
  · rw [if_pos hb, if_pos (by decide)]
  rw [if_neg hb, if_neg hb]
  obtain ⟨r, hr, hk⟩ := toMoveS_eq l (by omega)
  obtain ⟨q, h1, h2⟩ := exchange_both x y z r (l.length + 3001) (by omega)
  rw [hk _ (by omega)]
  simp only [Option.bind_some]
  rw [h1]
  simp only [Option.bind_some]
  rw [h2]
  simp only [Option.bind_some, bne_self_eq_false]
  rw [if_neg (by decide)]
  simp only [laws_FnExactIsExchange.j0]
  rw [if_neg (by decide)]
  exact toMoveS_same hk hr (by omega) _ (by omega)
end Go.Proofs.Ytgiphajcffambaa.Pure
