/- The steps to a text among what was found: for all lists. -/
import Derived.Test.YtjgijaocinpkhaaDoorLOreach0

namespace Go.Proofs.YtjgijaocinpkhaaDoor.XO
set_option linter.unusedVariables false
set_option linter.unusedSimpArgs false
open Go Go.RowKit Go.Proofs.YtjgijaocinpkhaaDoorW.PrintWords Go.Proofs.YtjgijaocinpkhaaDoorB Go.Proofs.YtjgijaocinpkhaaDoor.Pm Go.Proofs.YtjgijaocinpkhaaDoor.Srts

def stepsTo : List PEnt → ByteArray → Int
  | [], _ => -1
  | e :: E, v => if e.node = v then (e.dep : Int) else stepsTo E v
theorem stepsTo_none : ∀ {E : List PEnt} {v : ByteArray}, v ∉ Bfs.nodes E → stepsTo E v = -1
  | [], _, _ => rfl
  | e :: E, v, h => by
    unfold Bfs.nodes at h
    rw [List.map_cons, List.mem_cons, not_or] at h
    rw [stepsTo, if_neg (fun e' => h.1 e'.symm)]
    exact stepsTo_none h.2
theorem stepsTo_some : ∀ {E : List PEnt} {v : ByteArray}, v ∈ Bfs.nodes E → 0 ≤ stepsTo E v
  | [], _, h => by simp [Bfs.nodes] at h
  | e :: E, v, h => by
    rw [stepsTo]
    by_cases h' : e.node = v
    · rw [if_pos h']
      omega
    · rw [if_neg h']
      unfold Bfs.nodes at h
      rw [List.map_cons, List.mem_cons] at h
      rcases h with h | h
      · exact absurd h.symm h'
      · exact stepsTo_some h
theorem stepsTo_at : ∀ {E : List PEnt} {v : ByteArray} {j : Nat} {e : PEnt}, (Bfs.nodes E).Nodup → E[j]? = some e → e.node = v → stepsTo E v = (e.dep : Int)
  | [], _, _, _, _, h, _ => by simp at h
  | a :: E, v, 0, e, _, h, hv => by
    cases h
    rw [stepsTo, if_pos hv]
  | a :: E, v, j + 1, e, hn, h, hv => by
    unfold Bfs.nodes at hn
    rw [List.map_cons, List.nodup_cons] at hn
    rw [List.getElem?_cons_succ] at h
    rw [stepsTo, if_neg (fun (e' : a.node = v) => hn.1 (List.mem_map.2 ⟨e, List.mem_of_getElem? h, by rw [e', hv]⟩))]
    exact stepsTo_at hn.2 h hv
theorem tl_iff {x y : ByteArray} : x.toList = y.toList ↔ x = y := ⟨tl_inj, fun h => by rw [h]⟩
theorem nodesLen (E : List PEnt) : (Bfs.nodes E).length = E.length := List.length_map _
theorem rd_dep {E : List PEnt} {i : Nat} {e : PEnt} (h : E[i]? = some e) : rd (E.map fun (e : PEnt) => (e.dep : Int)) (i : Int) = (e.dep : Int) := by
  unfold rd
  rw [Int.toNat_natCast, List.getD_eq_getElem?_getD, List.getElem?_map, h]
  rfl
end Go.Proofs.YtjgijaocinpkhaaDoor.XO
