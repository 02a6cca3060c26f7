/- FnExactBothWays without Go: for every text that memory holds and all rules, the program's BothWays is the reference's. -/
import Derived.Test.YtjgijaocinpkhaaDoorT2LTall
import Derived.Test.YtjgijaocinpkhaaDoorT2XT1
import Derived.Test.YtjgijaocinpkhaaDoorT2XT10
import Derived.Test.YtjgijaocinpkhaaDoorT2XT11
import Derived.Test.YtjgijaocinpkhaaDoorT2XT2
import Derived.Test.YtjgijaocinpkhaaDoorT2XT5
import Derived.Test.YtjgijaocinpkhaaDoorT2XT8
namespace Go.Proofs.YtjgijaocinpkhaaDoor.Pure
set_option linter.unusedVariables false
set_option linter.unusedSimpArgs false
open Go Go.RowKit Go.Proofs.YtjgijaocinpkhaaDoorW.PrintWords Go.Proofs.YtjgijaocinpkhaaDoor.XT Go.Proofs.YtjgijaocinpkhaaDoorB Go.Proofs.YtjgijaocinpkhaaDoor.Pm Go.Proofs.YtjgijaocinpkhaaDoor.Srts
theorem both_l0 (E E' : List PEnt) (hE : E.length ≤ 59049) (hE' : E'.length ≤ 59049) : ∀ (d i k : Nat), i + d = E.length → d + 60000 < k →
    spec_BothWays.l0 k (Bfs.nodes E) (E.length : Int) (i : Int) (Bfs.nodes E') (E'.map fun (e : PEnt) => (e.dep : Int)) = some (((Bfs.nodes E).drop i).all (fun x => inN x (Bfs.nodes E')), true) := by
  intro d
  induction d with
  | zero =>
    intro i k hi hk
    obtain ⟨k, rfl⟩ : ∃ m, k = m + 1 := ⟨k - 1, by omega⟩
    rw [spec_BothWays.l0, if_neg (by omega), List.drop_of_length_le (by rw [nodes_len]; omega)]
    simp
  | succ d ih =>
    intro i k hi hk
    obtain ⟨k, rfl⟩ : ∃ m, k = m + 1 := ⟨k - 1, by omega⟩
    have hlt : i < E.length := by omega
    have he : E[i]? = some E[i] := List.getElem?_eq_getElem hlt
    have hn : (Bfs.nodes E)[i]? = some E[i].node := by unfold Bfs.nodes; rw [List.getElem?_map, he]; rfl
    have hd : (Bfs.nodes E).drop i = E[i].node :: (Bfs.nodes E).drop (i + 1) := by
      have hl : i < (Bfs.nodes E).length := by rw [nodes_len]; exact hlt
      rw [List.drop_eq_getElem_cons hl]
      rw [List.getElem?_eq_getElem hl] at hn
      rw [Option.some.inj hn]
    rw [spec_BothWays.l0, if_pos (by omega), if_pos (by omega), nodes_len, if_pos (by omega), nodes_rd he, ruLeft_eq E' (by omega) _ k (by omega), Option.bind_some, hd]
    by_cases h : E[i].node ∈ Bfs.nodes E'
    · rw [if_neg (by have := stepsTo_some h; omega), w64_succ (n := E.length) hlt (by omega), ih (i + 1) k (by omega) (by omega)]
      rw [List.all_cons, inN_iff.2 h, Bool.true_and]
    · rw [stepsTo_none h, if_pos (by decide)]
      rw [List.all_cons, inN_no.2 h, Bool.false_and]
theorem both_both (a : ByteArray) (o b l : Bool) (hs : a.size ≤ 140737488351232) (K : Nat) (hK : 18500000 ≤ K) : ∃ r : Bool × Bool, spec_BothWays.f K a o b l = some r ∧ impl_BothWays.f a o b l = some r := by
  unfold spec_BothWays.f
  rw [reFew_eq a hs K (by omega)]
  simp only [Option.bind_some]
  cases hL : isLine 10 a with
  | false =>
    unfold impl_BothWays.f
    rw [impl_isReachLine_eq a hs, hL]
    exact ⟨_, rfl, rfl⟩
  | true =>
    obtain ⟨h1, h10, hl⟩ := isLine_size hL
    obtain ⟨E, e1, e2, e3, e4, v, e5, e6⟩ := bothways_eq h1 h10 hl o b l
    obtain ⟨E2, f1, f2, _⟩ := byRule_found h1 h10 o b l (a := a) ⟨rfl, hl⟩
    rw [e2] at f1
    obtain rfl := Option.some.inj f1
    obtain ⟨E', g1, g2, g3, g4⟩ := ruBack_found h1 h10 o b l (v := a) ⟨rfl, hl⟩
    unfold spec_ruReach.f
    rw [f2, g1 K (by omega)]
    simp only [Option.bind_some, if_true]
    have h0 := both_l0 E E' e3 g4 E.length 0 K (by omega) (by omega)
    rw [nodes_len, show (0 : Int) = ((0 : Nat) : Int) from rfl, h0, e5]
    refine ⟨_, rfl, ?_⟩
    congr 2
    rw [List.drop_zero]
    have hb := back_iff h10 g2
    rw [Bool.eq_iff_iff, List.all_eq_true, e6]
    exact ⟨fun h x hx => inN_iff.2 ((hb x).2 (h x hx)), fun h x hx => (hb x).1 (inN_iff.1 (h x hx))⟩
theorem FnExactBothWays (a : ByteArray) (o b l : Bool) (hs : a.size ≤ 140737488351232) : ∃ k, laws_FnExactBothWays.f k a o b l = some true := by
  refine ⟨20000000, ?_⟩
  obtain ⟨r, h1, h2⟩ := both_both a o b l hs 20000000 (by omega)
  unfold laws_FnExactBothWays.f
  split
  · rfl
  rw [show laws_toRule.f o b l = some (o, b, l) from rfl]
  simp only [Option.bind_some]
  rw [h1, h2]
  simp
end Go.Proofs.YtjgijaocinpkhaaDoor.Pure
