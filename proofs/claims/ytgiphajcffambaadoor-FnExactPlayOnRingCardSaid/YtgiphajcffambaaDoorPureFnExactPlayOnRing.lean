/- FnExactPlayOnRing without Go: for every text and every list of moves that memory holds, the program's PlayOnRing is the reference's, and the list stays as it was. -/
import Derived.Test.YtgiphajcffambaaDoorLQciplay
import Derived.Test.YtgiphajcffambaaDoorXQ0
import Derived.Test.YtgiphajcffambaaDoorXQ3
import Derived.Test.YtgiphajcffambaaDoorXQ4
import Derived.Test.YtgiphajcffambaaDoorXQ5
namespace Go.Proofs.YtgiphajcffambaaDoor.Pure
set_option linter.unusedVariables false
set_option linter.unusedSimpArgs false
open Go Go.RowKit Go.Proofs.YtgiphajcffambaaDoorW.PrintWords Go.Proofs.YtgiphajcffambaaDoor.XQ Go.Proofs.YtgiphajcffambaaDoorB
theorem playOnRing_both (a : ByteArray) (hs : a.size ≤ 140737488351232) (r : List S46) (k : Nat) (hk : r.length + 200 < k) : ∃ q, spec_PlayOnRing.f k a r = some q ∧ impl_PlayOnRing.f a r = some q := by
  obtain ⟨k, rfl⟩ : ∃ m, k = m + 1 := ⟨k - 1, by omega⟩
  unfold spec_PlayOnRing.f impl_PlayOnRing.f
  rw [ciGood_eq a hs (k + 1) (by omega), impl_IsRing_eq a hs]
  simp only [Option.bind_some]
  cases hL : isRing a with
  | false => exact ⟨((⟨#[]⟩ : ByteArray), false), by rw [if_neg (by decide)]; simp only [spec_PlayOnRing.j0]; rfl, rfl⟩
  | true =>
    have hI : ringI a := isRing_size hL
    simp only [if_true, spec_PlayOnRing.j0]
    by_cases hl : 100 < r.length
    · rw [if_pos (by simp; omega), if_pos hl]
      exact ⟨_, rfl, rfl⟩
    · have h0 := ciPlay_l0 r (by omega) r.length 0 k a hI (by omega) (by omega)
      rw [List.drop_zero] at h0
      rw [if_neg (by simp; omega), if_neg hl, show spec_PlayOnRing.l0 k a r (r.length : Int) 0 = _ from h0, playL_eq ringI _ rcan ring_can ring_made r a 0 hI]
      simp only [Option.bind_some, ends, Nat.zero_add]
      by_cases he : (stop rcan r a 0).2 = r.length
      · rw [if_pos he, if_pos he, he]
        exact ⟨_, rfl, by simp⟩
      · rw [if_neg he, if_neg he, show ((((stop rcan r a 0).2 : Nat) : Int) == (r.length : Int)) = false from by rw [beq_eq_false_iff_ne]; omega]
        exact ⟨_, rfl, rfl⟩
theorem FnExactPlayOnRing (a : ByteArray) (l : List S55) (hs : a.size ≤ 140737488351232) (hl : l.length * 16 ≤ 140737488351232) (_ : True) : ∃ k, laws_FnExactPlayOnRing.f k a l = some true := by
  refine ⟨l.length + 3001, ?_⟩
  unfold laws_FnExactPlayOnRing.f
  split
  · rfl
  rw [szMove_eq l hl]
  simp only [Option.bind_some]
  by_cases hb : (1048576 : Int) - (l.length : Int) < 0
  · rw [if_pos hb, if_pos (by decide)]
  rw [if_neg hb, if_neg hb]
  obtain ⟨r, hr, hk⟩ := toMoveS_eq l (by omega)
  obtain ⟨q, h1, h2⟩ := playOnRing_both a hs r (l.length + 3001) (by omega)
  rw [hk _ (by omega)]
  simp only [Option.bind_some]
  rw [h1]
  simp only [Option.bind_some]
  rw [h2]
  simp only [Option.bind_some, if_true, bne_self_eq_false]
  simp only [laws_FnExactPlayOnRing.j0]
  rw [if_neg (by decide)]
  exact toMoveS_same hk hr (by omega) _ (by omega)
end Go.Proofs.YtgiphajcffambaaDoor.Pure
