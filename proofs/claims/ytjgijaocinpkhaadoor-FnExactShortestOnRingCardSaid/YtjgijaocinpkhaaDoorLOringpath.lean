/- The ways on rings, by the program and by the reference: for all rings of 3 to 9 signs. -/
import Derived.Test.YtjgijaocinpkhaaDoorLOrings
import Derived.Test.YtjgijaocinpkhaaDoorLOways
import Derived.Test.YtjgijaocinpkhaaDoorLOring
import Derived.Test.YtjgijaocinpkhaaDoorXO0
import Derived.Test.YtjgijaocinpkhaaDoorXO4
namespace Go.Proofs.YtjgijaocinpkhaaDoor.XO
set_option linter.unusedVariables false
set_option linter.unusedSimpArgs false
open Go Go.RowKit Go.Proofs.YtjgijaocinpkhaaDoorW.PrintWords Go.Proofs.YtjgijaocinpkhaaDoorB Go.Proofs.YtjgijaocinpkhaaDoor.Pm Go.Proofs.YtjgijaocinpkhaaDoor.Srts

theorem pathG_in {a v : ByteArray} {R : List ByteArray} {nb : ByteArray → List (S83 × ByteArray)} (hG : ringG 3000 100000 a = some (R, R.map (plc nb R))) (hC : Closed nb R) (hl : R.length ≤ 59049) (hv : v ∈ R) : ∃ F, pathG 3000 100000 a v = some ((R, R.map (plc nb R)), some F) ∧ Fars nb R v F := by
  have hp := posS_at hv
  obtain ⟨F, h1, h2⟩ := toT_far hC hp.2 (K := 100000) (by omega) (by omega)
  refine ⟨F, ?_, h2⟩
  unfold pathG
  rw [hG, Option.bind_some, if_pos hp.1, h1, Option.bind_some]
theorem pathG_out {a v : ByteArray} {R : List ByteArray} {N : List (List Int)} (hG : ringG 3000 100000 a = some (R, N)) (hv : v ∉ R) : pathG 3000 100000 a v = some ((R, N), none) := by
  unfold pathG
  rw [hG, Option.bind_some, if_neg (by rw [posS_no hv]; exact Nat.lt_irrefl _)]
theorem ring_lineN {a : ByteArray} (h : isRing a = true) : 3 ≤ a.size ∧ a.size ≤ 9 ∧ lineN a.size a := ⟨(isRing_size h).1, (isRing_size h).2.1, rfl, (isRing_size h).2.2⟩
/-- how deep a text was found is how far it is -/
theorem dep_dist {nb : ByteArray → List (S83 × ByteArray)} {r : PEnt} {E : List PEnt} (h : Bfs.Found nb r E) (hr : r.dep = 0) {j : Nat} {e : PEnt} (he : E[j]? = some e) : isDist nb e.node e.dep r.node :=
  ⟨h.walk hr j e he, fun m' hm' hw => by have := h.least hr he hw; omega⟩
end Go.Proofs.YtjgijaocinpkhaaDoor.XO
