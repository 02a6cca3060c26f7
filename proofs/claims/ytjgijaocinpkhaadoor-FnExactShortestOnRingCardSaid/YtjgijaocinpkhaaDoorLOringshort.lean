/- How long a shortest way on rings is, by the program: for all rings of 3 to 9 signs. -/
import Derived.Test.YtjgijaocinpkhaaDoorLOringpath
import Derived.Test.YtjgijaocinpkhaaDoorXO0
import Derived.Test.YtjgijaocinpkhaaDoorXO5
import Derived.Test.YtjgijaocinpkhaaDoorXO6
namespace Go.Proofs.YtjgijaocinpkhaaDoor.XO
set_option linter.unusedVariables false
set_option linter.unusedSimpArgs false
open Go Go.RowKit Go.Proofs.YtjgijaocinpkhaaDoorW.PrintWords Go.Proofs.YtjgijaocinpkhaaDoorB Go.Proofs.YtjgijaocinpkhaaDoor.Pm Go.Proofs.YtjgijaocinpkhaaDoor.Srts
theorem fars_root {nb : ByteArray → List (S83 × ByteArray)} {r : PEnt} {E : List PEnt} (h : Bfs.Found nb r E) (hr : r.dep = 0) {v : ByteArray} {F : List Int} (hF : Fars nb (Bfs.nodes E) v F) {j : Nat} {e : PEnt} (he : E[j]? = some e) (hn : e.node = v) : rdOf 0 F 0 = (e.dep : Int) := by
  have hd := dep_dist h hr he
  rw [hn] at hd
  have h0 : (Bfs.nodes E)[0]? = some r.node := by unfold Bfs.nodes; rw [List.getElem?_map, h.root]; rfl
  exact ((hF.2 0 _ h0).1 e.dep).2 hd
theorem impl_short_in {a v : ByteArray} (hL : isRing a = true) (hM : isRing v = true) (hs : a.size ≤ 140737488351232) (hv : v.size ≤ 140737488351232) {E : List PEnt} (hE : ringO 100000 a = some E) {nb : ByteArray → List (S83 × ByteArray)} (hf : Bfs.Found nb ⟨a, -1, ⟨0, 0⟩, 0⟩ E) (h : v ∈ Bfs.nodes E) {e : PEnt} (he : E[ixOf v (Bfs.nodes E)]? = some e) (hn : e.node = v) :
    impl_ShortestOnRing.f a v = some ((e.dep : Int), true) := by
  unfold impl_ShortestOnRing.f impl_PathOnRing.f
  have hv9 := (ring_lineN hM).2.1
  rw [impl_IsRing_eq a hs, impl_IsRing_eq v hv, hL, hM]
  simp only [Option.bind_some, if_true]
  rw [if_pos (by omega), hE]
  simp only [Option.bind_some]
  rw [playE_some h]
  simp only [List.length_reverse]
  rw [back_length hf rfl (by show (-1 : Int) < 0; decide) he]
theorem impl_short_out {a v : ByteArray} (hL : isRing a = true) (hM : isRing v = true) (hs : a.size ≤ 140737488351232) (hv : v.size ≤ 140737488351232) {E : List PEnt} (hE : ringO 100000 a = some E) (h : v ∉ Bfs.nodes E) :
    impl_ShortestOnRing.f a v = some (0, false) := by
  unfold impl_ShortestOnRing.f impl_PathOnRing.f
  have hv9 := (ring_lineN hM).2.1
  rw [impl_IsRing_eq a hs, impl_IsRing_eq v hv, hL, hM]
  simp only [Option.bind_some, if_true]
  rw [if_pos (by omega), hE]
  simp only [Option.bind_some]
  rw [playE_none h]
  rfl
end Go.Proofs.YtjgijaocinpkhaaDoor.XO
