/- The steps to a text, as the reference looks them up: for all lists of at most 1000000 texts. -/
import Derived.Test.YtjgijaocinpkhaaDoorLCreach
import Derived.Test.YtjgijaocinpkhaaDoorXC3
import Derived.Test.YtjgijaocinpkhaaDoorXC5
import Derived.Test.YtjgijaocinpkhaaDoorXC6
import Derived.Test.YtjgijaocinpkhaaDoorXC7
namespace Go.Proofs.YtjgijaocinpkhaaDoor.XC
set_option linter.unusedVariables false
set_option linter.unusedSimpArgs false
open Go Go.RowKit Go.Proofs.YtjgijaocinpkhaaDoorW.PrintWords Go.Proofs.YtjgijaocinpkhaaDoorB Go.Proofs.YtjgijaocinpkhaaDoor.Pm

def stepsTo : List PEnt → ByteArray → Int
  | [], _ => -1
  | e :: E, v => if e.node = v then (e.dep : Int) else stepsTo E v
theorem stepsTo_none : ∀ {E : List PEnt} {v : ByteArray}, v ∉ Bfs.nodes E → stepsTo E v = -1
  | [], _, _ => rfl
  | e :: E, v, h => by
    unfold Bfs.nodes at h
    rw [List.map_cons, List.mem_cons, not_or] at h
    rw [stepsTo, if_neg (fun e' => h.1 e'.symm)]
    exact stepsTo_none h.2
theorem stepsTo_some : ∀ {E : List PEnt} {v : ByteArray}, v ∈ Bfs.nodes E → 0 ≤ stepsTo E v
  | [], _, h => by simp [Bfs.nodes] at h
  | e :: E, v, h => by
    rw [stepsTo]
    by_cases h' : e.node = v
    · rw [if_pos h']
      omega
    · rw [if_neg h']
      unfold Bfs.nodes at h
      rw [List.map_cons, List.mem_cons] at h
      rcases h with h | h
      · exact absurd h.symm h'
      · exact stepsTo_some h
theorem stepsTo_at : ∀ {E : List PEnt} {v : ByteArray} {j : Nat} {e : PEnt}, (Bfs.nodes E).Nodup → E[j]? = some e → e.node = v → stepsTo E v = (e.dep : Int)
  | [], _, _, _, _, h, _ => by simp at h
  | a :: E, v, 0, e, _, h, hv => by
    cases h
    rw [stepsTo, if_pos hv]
  | a :: E, v, j + 1, e, hn, h, hv => by
    unfold Bfs.nodes at hn
    rw [List.map_cons, List.nodup_cons] at hn
    rw [List.getElem?_cons_succ] at h
    rw [stepsTo, if_neg (fun (e' : a.node = v) => hn.1 (List.mem_map.2 ⟨e, List.mem_of_getElem? h, by rw [e', hv]⟩))]
    exact stepsTo_at hn.2 h hv
theorem tl_iff {x y : ByteArray} : x.toList = y.toList ↔ x = y := ⟨tl_inj, fun h => by rw [h]⟩
theorem nodesLen (E : List PEnt) : (Bfs.nodes E).length = E.length := List.length_map _
theorem rd_dep {E : List PEnt} {i : Nat} {e : PEnt} (h : E[i]? = some e) : rd (E.map fun (e : PEnt) => (e.dep : Int)) (i : Int) = (e.dep : Int) := by
  unfold rd
  rw [Int.toNat_natCast, List.getD_eq_getElem?_getD, List.getElem?_map, h]
  rfl
theorem ruSteps_l0 (E : List PEnt) (hE : E.length ≤ 1000000) (v : ByteArray) : ∀ (d i k : Nat), i + d = E.length → d < k →
    spec_ruSteps.l0 k v (Bfs.nodes E) ((Bfs.nodes E).length : Int) (i : Int) (Bfs.nodes E) (E.map fun (e : PEnt) => (e.dep : Int)) = some (stepsTo (E.drop i) v) := by
  intro d
  induction d with
  | zero =>
    intro i k hi hk
    obtain ⟨k, rfl⟩ : ∃ m, k = m + 1 := ⟨k - 1, by omega⟩
    simp only [spec_ruSteps.l0]
    rw [nodesLen, if_neg (by omega), List.drop_of_length_le (by omega)]
    rfl
  | succ d ih =>
    intro i k hi hk
    obtain ⟨k, rfl⟩ : ∃ m, k = m + 1 := ⟨k - 1, by omega⟩
    have hlt : i < E.length := by omega
    have he : E[i]? = some E[i] := List.getElem?_eq_getElem hlt
    simp only [spec_ruSteps.l0]
    have ih' := ih (i + 1) k (by omega) (by omega)
    rw [nodesLen] at ih' ⊢
    rw [if_pos (by omega), if_pos (by omega), if_pos (by omega), List.length_map, if_pos (show (i : Int) < (E.length : Int) by omega), w64_succ (n := E.length) hlt (by omega), ih', nodes_rd he, rd_dep he, List.drop_eq_getElem_cons hlt, stepsTo]
    by_cases h : E[i].node = v
    · rw [if_pos (tl_iff.2 h), if_pos h]
    · rw [if_neg (fun e => h (tl_iff.1 e)), if_neg h]
theorem ruSteps_eq {a v : ByteArray} {o b l : Bool} {E : List PEnt} (h : reachS (fun s => spec_ruMoves.f 3000 s o b l) 100000 0 [⟨a, -1, ⟨0, 0⟩, 0⟩] = some E) (hE : E.length ≤ 59049) (k : Nat) (hk : 60000 ≤ k) : spec_ruSteps.f k a v o b l = some (stepsTo E v) := by
  unfold spec_ruSteps.f spec_ruReach.f
  rw [h]
  simp only [Option.bind_some]
  exact ruSteps_l0 E (by omega) v E.length 0 k (by omega) (by omega)
end Go.Proofs.YtjgijaocinpkhaaDoor.XC
