/- FnExactMoveThatFails without Go: for every text and every list of moves that memory holds, the program's MoveThatFails is the reference's, and the list stays as it was. -/
import Derived.Test.YtgiphajcffambaaDoorLPliplay
import Derived.Test.YtgiphajcffambaaDoorXP0
import Derived.Test.YtgiphajcffambaaDoorXP13
import Derived.Test.YtgiphajcffambaaDoorXP14
import Derived.Test.YtgiphajcffambaaDoorXP15
import Derived.Test.YtgiphajcffambaaDoorXP9
namespace Go.Proofs.YtgiphajcffambaaDoor.Pure
set_option linter.unusedVariables false
set_option linter.unusedSimpArgs false
open Go Go.RowKit Go.Proofs.YtgiphajcffambaaDoorW.PrintWords Go.Proofs.YtgiphajcffambaaDoor.XP Go.Proofs.YtgiphajcffambaaDoorB
theorem moveThatFails_both (a : ByteArray) (hs : a.size ≤ 140737488351232) (r : List S46) (k : Nat) (hk : r.length + 200 < k) : ∃ q, spec_MoveThatFails.f k a r = some q ∧ impl_MoveThatFails.f a r = some q := by
  unfold spec_MoveThatFails.f impl_MoveThatFails.f impl_IsLine.f
  rw [liAsked_eq a hs r k (by omega), show impl_isLineOf.f a 12 = some (isLine 12 a) from isLineOf_eq a 12 hs]
  simp only [Option.bind_some]
  cases hL : isLine 12 a with
  | false => exact ⟨_, rfl, rfl⟩
  | true =>
    obtain ⟨h1, h12, _⟩ := isLine_size hL
    simp only [if_true, Bool.true_and]
    by_cases hl : 100 < r.length
    · rw [decide_eq_false (by omega), if_neg (by decide), if_pos hl]
      exact ⟨_, rfl, rfl⟩
    · rw [decide_eq_true (by omega), if_pos rfl, if_neg hl, liPlay_eq r (by omega) a ⟨h1, by omega⟩ k (by omega), playL_eq lineI _ canB line_can line_made r a 0 ⟨h1, by omega⟩]
      simp only [Option.bind_some, ends, Nat.zero_add]
      by_cases he : (((stop canB r a 0).2 : Nat) : Int) = (r.length : Int)
      · rw [if_pos he]
        exact ⟨_, rfl, rfl⟩
      · rw [if_neg he]
        exact ⟨_, rfl, rfl⟩
theorem FnExactMoveThatFails (a : ByteArray) (l : List S55) (hs : a.size ≤ 140737488351232) (hl : l.length * 16 ≤ 140737488351232) (_ : True) : ∃ k, laws_FnExactMoveThatFails.f k a l = some true := by
  refine ⟨l.length + 3001, ?_⟩
  unfold laws_FnExactMoveThatFails.f
  split
  · rfl
  rw [szMove_eq l hl]
  simp only [Option.bind_some]
  by_cases hb : (1048576 : Int) - (l.length : Int) < 0
  · rw [if_pos hb, if_pos (by decide)]
  rw [if_neg hb, if_neg hb]
  obtain ⟨r, hr, hk⟩ := toMoveS_eq l (by omega)
  obtain ⟨q, h1, h2⟩ := moveThatFails_both a hs r (l.length + 3001) (by omega)
  rw [hk _ (by omega)]
  simp only [Option.bind_some]
  rw [h1]
  simp only [Option.bind_some]
  rw [h2]
  simp only [Option.bind_some, if_true, bne_self_eq_false]
  simp only [laws_FnExactMoveThatFails.j0]
  rw [if_neg (by decide)]
  exact toMoveS_same hk hr (by omega) _ (by omega)
end Go.Proofs.YtgiphajcffambaaDoor.Pure
