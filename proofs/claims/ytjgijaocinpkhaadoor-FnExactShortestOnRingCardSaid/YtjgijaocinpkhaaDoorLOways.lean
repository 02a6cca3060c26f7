/- How long a first shortest way is: for all that a search finds. -/
import Derived.Test.YtjgijaocinpkhaaDoorLOsteps
import Derived.Test.YtjgijaocinpkhaaDoorXO0
import Derived.Test.YtjgijaocinpkhaaDoorXO5
namespace Go.Proofs.YtjgijaocinpkhaaDoor.XO
set_option linter.unusedVariables false
set_option linter.unusedSimpArgs false
open Go Go.RowKit Go.Proofs.YtjgijaocinpkhaaDoorW.PrintWords Go.Proofs.YtjgijaocinpkhaaDoorB Go.Proofs.YtjgijaocinpkhaaDoor.Pm Go.Proofs.YtjgijaocinpkhaaDoor.Srts

theorem back_length {nb : ByteArray → List (S83 × ByteArray)} {r : PEnt} {E : List PEnt} (h : Bfs.Found nb r E) (hr : r.dep = 0) (hp : r.par < 0) {j : Nat} {e : PEnt} (he : E[j]? = some e) : (Bfs.back E (j + 1) j).length = e.dep := by
  have hA := h.back hp j (j + 1) (Bfs.get_lt he) (by omega)
  have h2 := (hA.walk h h.root he).2
  rw [hr, Nat.zero_add, List.length_reverse] at h2
  exact h2.symm
theorem ent_at {E : List PEnt} {v : ByteArray} (h : v ∈ Bfs.nodes E) : ∃ e : PEnt, E[ixOf v (Bfs.nodes E)]? = some e ∧ e.node = v := by
  have h1 := ixOf_at h
  unfold Bfs.nodes at h1 ⊢
  rw [List.getElem?_map] at h1
  obtain ⟨e, he, hn⟩ := Option.map_eq_some_iff.1 h1
  exact ⟨e, he, hn⟩
theorem playE_some {E : List PEnt} {v : ByteArray} (h : v ∈ Bfs.nodes E) : playE E v = ((Bfs.back E (ixOf v (Bfs.nodes E) + 1) (ixOf v (Bfs.nodes E))).reverse, true) := by
  unfold playE
  rw [if_pos (inN_iff.2 h)]
theorem playE_none {E : List PEnt} {v : ByteArray} (h : v ∉ Bfs.nodes E) : playE E v = ([], false) := by
  unfold playE
  rw [if_neg (fun h' => h (inN_iff.1 h'))]
end Go.Proofs.YtjgijaocinpkhaaDoor.XO
