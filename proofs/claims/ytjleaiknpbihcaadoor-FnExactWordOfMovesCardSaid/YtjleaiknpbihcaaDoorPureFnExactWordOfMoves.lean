/- FnExactWordOfMoves without Go: for every text and every list of moves that memory holds, the program's WordOfMoves is the reference's, and the list stays as it was. -/
import Derived.Test.YtjleaiknpbihcaaDoorLAwordmoves
import Derived.Test.YtjleaiknpbihcaaDoorXA0
import Derived.Test.YtjleaiknpbihcaaDoorXA13
import Derived.Test.YtjleaiknpbihcaaDoorXA3
import Derived.Test.YtjleaiknpbihcaaDoorXA49
import Derived.Test.YtjleaiknpbihcaaDoorXA51
import Derived.Test.YtjleaiknpbihcaaDoorXA52
import Derived.Test.YtjleaiknpbihcaaDoorXA7
namespace Go.Proofs.YtjleaiknpbihcaaDoor.Pure
set_option linter.unusedVariables false
set_option linter.unusedSimpArgs false
open Go Go.RowKit Go.Proofs.YtjleaiknpbihcaaDoorW.PrintWords Go.Proofs.YtjleaiknpbihcaaDoor.XA Go.Proofs.YtjleaiknpbihcaaDoorB
theorem FnExactWordOfMoves (a : ByteArray) (l : List S26) (hs : a.size ≤ 140737488351232) (hl : l.length * 16 ≤ 140737488351232) (_ : True) : ∃ k, laws_FnExactWordOfMoves.f k a l = some true := by
  refine ⟨l.length + 3000, ?_⟩
  unfold laws_FnExactWordOfMoves.f
  split
  · rfl
  have hsz : laws_szMoveS.f l 1048576 = some (if (1048576 : Int) - (l.length : Int) < 0 then -1 else (1048576 : Int) - (l.length : Int)) := by
    unfold laws_szMoveS.f
    rw [w64 (by omega) (by omega)]
    split <;> rfl
  rw [hsz]
  simp only [Option.bind_some]
  by_cases hb : (1048576 : Int) - (l.length : Int) < 0
  · rw [if_pos hb, if_pos (by decide)]
  rw [if_neg hb, if_neg hb]
  have hl2 : l.length ≤ 1048576 := by omega
  obtain ⟨r, hr, hk⟩ := toMoveS_eq l (by omega)
  rw [hk _ (by omega)]
  simp only [Option.bind_some]
  have hw : ∃ q, spec_WordOfMoves.f (l.length + 3000) a r = some q ∧ impl_WordOfMoves.f (l.length + 3000) a r = some q := by
    unfold spec_WordOfMoves.f impl_WordOfMoves.f impl_IsLine.f
    rw [liGood_eq a hs _ (by omega), show impl_isLineOf.f a 12 = some (isLine 12 a) from isLineOf_eq a 12 hs]
    simp only [Option.bind_some]
    cases hL : isLine 12 a with
    | false => exact ⟨((⟨#[]⟩ : ByteArray), false), by rw [if_neg (by decide)]; simp only [spec_WordOfMoves.j0]; rfl, by rw [if_neg (by decide)]; simp only [impl_WordOfMoves.j0]; rfl⟩
    | true =>
      obtain ⟨h1, h12, _⟩ := isLine_size hL
      simp only [if_true, spec_WordOfMoves.j0, impl_WordOfMoves.j0]
      by_cases h40 : (r.length : Int) > 40
      · rw [if_pos (by simpa using h40), if_pos (by simpa using h40)]
        exact ⟨_, rfl, rfl⟩
      · rw [if_neg (by simpa using h40), if_neg (by simpa using h40)]
        obtain ⟨q, hq⟩ := word_l0 r (by omega) r.length 0 a [] h1 (by omega) (by simp) (by omega)
        exact ⟨q, (hq _ (by omega)).1, (hq _ (by omega)).2⟩
  obtain ⟨q, h1, h2⟩ := hw
  rw [h1]
  simp only [Option.bind_some]
  rw [h2]
  simp only [Option.bind_some, if_true, bne_self_eq_false]
  simp only [laws_FnExactWordOfMoves.j0]
  rw [if_neg (by decide), hk _ (by omega)]
  simp only [Option.bind_some]
  rw [eqMoveS_same r (by omega) _ (by omega)]
  rfl
end Go.Proofs.YtjleaiknpbihcaaDoor.Pure
