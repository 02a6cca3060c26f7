/- FnExactPlayByRule without Go: for every text and every list of moves that memory holds, the program's PlayByRule is the reference's, and the list stays as it was. -/
import Derived.Test.YtgiphajcffambaaDoorLUruplay
import Derived.Test.YtgiphajcffambaaDoorXU0
import Derived.Test.YtgiphajcffambaaDoorXU2
import Derived.Test.YtgiphajcffambaaDoorXU5
import Derived.Test.YtgiphajcffambaaDoorXU7
import Derived.Test.YtgiphajcffambaaDoorXU8
namespace Go.Proofs.YtgiphajcffambaaDoor.Pure
set_option linter.unusedVariables false
set_option linter.unusedSimpArgs false
open Go Go.RowKit Go.Proofs.YtgiphajcffambaaDoorW.PrintWords Go.Proofs.YtgiphajcffambaaDoor.XU Go.Proofs.YtgiphajcffambaaDoorB
theorem playByRule_both (a : ByteArray) (hs : a.size ≤ 140737488351232) (r : List S46) (o b q : Bool) (k : Nat) (hk : r.length + 400 < k) : ∃ z, spec_PlayByRule.f k a r o b q = some z ∧ impl_PlayByRule.f a r o b q = some z := by
  obtain ⟨k, rfl⟩ : ∃ m, k = m + 1 := ⟨k - 1, by omega⟩
  unfold spec_PlayByRule.f impl_PlayByRule.f
  rw [reFew_eq a hs (k + 1) (by omega), impl_isReachLine_eq a hs]
  simp only [Option.bind_some]
  cases hL : isLine 10 a with
  | false => exact ⟨((⟨#[]⟩ : ByteArray), false), by rw [if_neg (by decide)]; simp only [spec_PlayByRule.j0]; rfl, rfl⟩
  | true =>
    have hI : reachI a := isLine_size hL
    simp only [if_true, spec_PlayByRule.j0]
    by_cases hl : 100 < r.length
    · rw [if_pos (by simp; omega), if_pos hl]
      exact ⟨_, rfl, rfl⟩
    · have h0 := ruPlay_l0 o b q r (by omega) r.length 0 k a hI (by omega) (by omega)
      rw [List.drop_zero] at h0
      rw [if_neg (by simp; omega), if_neg hl, show spec_PlayByRule.l0 k a r (r.length : Int) 0 o b q = _ from h0, playL_eq reachI _ (fun s => bcan s o b q) (rule_can o b q) (rule_made o b q) r a 0 hI]
      simp only [Option.bind_some, ends, Nat.zero_add]
      by_cases he : (stop (fun s => bcan s o b q) r a 0).2 = r.length
      · rw [if_pos he, if_pos he, he]
        exact ⟨_, rfl, by simp⟩
      · rw [if_neg he, if_neg he, show ((((stop (fun s => bcan s o b q) r a 0).2 : Nat) : Int) == (r.length : Int)) = false from by rw [beq_eq_false_iff_ne]; omega]
        exact ⟨_, rfl, rfl⟩
theorem FnExactPlayByRule (a : ByteArray) (l : List S55) (o b q : Bool) (hs : a.size ≤ 140737488351232) (hl : l.length * 16 ≤ 140737488351232) (_ : True) : ∃ k, laws_FnExactPlayByRule.f k a l o b q = some true := by
  refine ⟨l.length + 3001, ?_⟩
  unfold laws_FnExactPlayByRule.f
  split
  · rfl
  rw [szMove_eq l hl]
  simp only [Option.bind_some]
  by_cases hb : (1048576 : Int) - (l.length : Int) < 0
  · rw [if_pos hb, if_pos (by decide)]
  rw [if_neg hb, if_neg hb]
  obtain ⟨r, hr, hk⟩ := toMoveS_eq l (by omega)
  obtain ⟨z, h1, h2⟩ := playByRule_both a hs r o b q (l.length + 3001) (by omega)
  rw [hk _ (by omega), show laws_toRule.f o b q = some (o, b, q) from rfl]
  simp only [Option.bind_some]
  rw [h1]
  simp only [Option.bind_some]
  rw [h2]
  simp only [Option.bind_some, if_true, bne_self_eq_false]
  simp only [laws_FnExactPlayByRule.j0]
  rw [if_neg (by decide)]
  exact toMoveS_same hk hr (by omega) _ (by omega)
end Go.Proofs.YtgiphajcffambaaDoor.Pure
