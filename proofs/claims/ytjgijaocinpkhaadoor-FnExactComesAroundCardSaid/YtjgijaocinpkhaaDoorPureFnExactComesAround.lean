/- FnExactComesAround without Go: for all texts that memory holds, the program's ComesAround is the reference's. -/
import Derived.Test.YtjgijaocinpkhaaDoorLQall
import Derived.Test.YtjgijaocinpkhaaDoorXQ5
import Derived.Test.YtjgijaocinpkhaaDoorXQ6
namespace Go.Proofs.YtjgijaocinpkhaaDoor.Pure
set_option linter.unusedVariables false
set_option linter.unusedSimpArgs false
open Go Go.RowKit Go.Proofs.YtjgijaocinpkhaaDoorW.PrintWords Go.Proofs.YtjgijaocinpkhaaDoor.XQ Go.Proofs.YtjgijaocinpkhaaDoorB Go.Proofs.YtjgijaocinpkhaaDoor.Pm Go.Proofs.YtjgijaocinpkhaaDoor.Srts
theorem FnExactComesAround (a : ByteArray) (hs : a.size ≤ 140737488351232) : ∃ k, laws_FnExactComesAround.f k a = some true := by
  refine ⟨100000, ?_⟩
  have hr : ∃ r : Int × Bool, spec_ComesAround.f 100000 a = some r ∧ impl_ComesAround.f 100000 a = some r := by
    unfold spec_ComesAround.f impl_ComesAround.f
    rw [ciGood_eq a hs 100000 (by omega), impl_IsRing_eq a hs]
    simp only [Option.bind_some]
    cases hL : isRing a with
    | false => exact ⟨_, rfl, rfl⟩
    | true =>
      simp only [if_true, Option.bind_some]
      obtain ⟨h3, h9, ha⟩ := ring_lineN hL
      obtain ⟨E, e1, e2, e3, e4, e5, e6⟩ := ring_found h3 h9 ha
      have hlE : (Bfs.nodes E).length = E.length := List.length_map _
      have h0 : (Bfs.nodes E)[0]? = some a := by unfold Bfs.nodes; rw [List.getElem?_map, e4.root]; rfl
      obtain ⟨F, f1, f2⟩ := toT_far e3 h0 (K := 100000) (by omega) (by omega)
      have hg : comeG 3000 100000 a = some ((Bfs.nodes E, (Bfs.nodes E).map (plc (nbM rmoves) (Bfs.nodes E))), F) := by
        unfold comeG
        rw [e2, Option.bind_some, f1, Option.bind_some]
      have hrow : ((Bfs.nodes E).map (plc (nbM rmoves) (Bfs.nodes E))).getD 0 [] = plc (nbM rmoves) (Bfs.nodes E) a := by
        rw [List.getD_eq_getElem?_getD, List.getElem?_map, h0]
        rfl
      have hml := rmoves_length a
      have hc := come_l0 h3 h9 ha f2 e3 (List.mem_of_getElem? h0) (rmoves a).length 0 100000 (-1) (by omega) (by omega) (.inl rfl) (by decide)
      rw [hg, impl_ringMoves_eq a h3 h9 100000 (by omega)]
      simp only [Option.bind_some]
      rw [hrow]
      rw [List.drop_zero] at hc
      exact ⟨_, rfl, hc⟩
  obtain ⟨r, h1, h2⟩ := hr
  unfold laws_FnExactComesAround.f
  split
  · rfl
  rw [h1, h2]
  simp
end Go.Proofs.YtjgijaocinpkhaaDoor.Pure
