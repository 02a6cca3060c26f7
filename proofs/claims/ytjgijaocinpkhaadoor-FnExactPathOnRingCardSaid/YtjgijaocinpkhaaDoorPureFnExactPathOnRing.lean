/- FnExactPathOnRing without Go: for all texts that memory holds, the program's PathOnRing is the reference's, and what it returned stays as it was. -/
import Derived.Test.YtjgijaocinpkhaaDoorLVall
import Derived.Test.YtjgijaocinpkhaaDoorXV0
import Derived.Test.YtjgijaocinpkhaaDoorXV5
import Derived.Test.YtjgijaocinpkhaaDoorXV6
import Derived.Test.YtjgijaocinpkhaaDoorXV7
namespace Go.Proofs.YtjgijaocinpkhaaDoor.Pure
set_option linter.unusedVariables false
set_option linter.unusedSimpArgs false
open Go Go.RowKit Go.Proofs.YtjgijaocinpkhaaDoorW.PrintWords Go.Proofs.YtjgijaocinpkhaaDoor.XV Go.Proofs.YtjgijaocinpkhaaDoorB Go.Proofs.YtjgijaocinpkhaaDoor.Pm Go.Proofs.YtjgijaocinpkhaaDoor.Srts
theorem path_both {a v : ByteArray} (hs : a.size ≤ 140737488351232) (hv : v.size ≤ 140737488351232) : ∃ r : List S83 × Bool, r.1.length ≤ 100000 ∧ (∀ k, 2000 ≤ k → spec_PathOnRing.f k a v = some r) ∧ impl_PathOnRing.f a v = some r := by
  unfold spec_PathOnRing.f impl_PathOnRing.f
  rw [impl_IsRing_eq a hs, impl_IsRing_eq v hv]
  simp only [Option.bind_some]
  cases hL : isRing a with
  | false => exact ⟨([], false), by simp, fun k hk => by rw [ciGood_eq a hs k (by omega), hL]; rfl, rfl⟩
  | true =>
    simp only [if_true]
    cases hM : isRing v with
    | false => exact ⟨([], false), by simp, fun k hk => by rw [ciGood_eq a hs k (by omega), hL, ciGood_eq v hv k (by omega), hM]; rfl, rfl⟩
    | true =>
      simp only [if_true]
      obtain ⟨h3, h9, ha⟩ := ring_lineN hL
      obtain ⟨E, e1, e2, e3, e4, e5, e6⟩ := ring_found h3 h9 ha
      have hv9 := (ring_lineN hM).2.1
      rw [e1, if_pos (by omega)]
      simp only [Option.bind_some]
      by_cases h : v ∈ Bfs.nodes E
      · obtain ⟨e, he, hn⟩ := ent_at h
        obtain ⟨F, f1, f2⟩ := pathG_in e2 e3 (by rw [show (Bfs.nodes E).length = E.length from List.length_map _]; exact e6) h
        obtain ⟨near, hnear⟩ : ∃ near : Nat → ByteArray → Bool, ∀ m x, near m x = true ↔ isDist (nbM rmoves) v m x := ⟨fun m x => @decide _ (Classical.propDecidable (isDist (nbM rmoves) v m x)), fun m x => by simp⟩
        obtain ⟨w1, w2⟩ := e4.way rfl (by show (-1 : Int) < 0; decide) he (Nat.lt_succ_self _) (near := near) (by rw [hn]; exact hnear)
        have hdd := dep_dist e4 rfl he
        rw [hn] at hdd
        have hlt := Bfs.get_lt he
        have hle := dep_le e4 rfl he
        have h0 : (Bfs.nodes E)[0]? = some a := by unfold Bfs.nodes; rw [List.getElem?_map, e4.root]; rfl
        have hp := pathP_greedy h3 h9 e5 e3 f2 hnear e.dep a 0 100000 [] _ h0 hdd w1 (by simp; omega) (by omega)
        rw [List.nil_append] at hp
        refine ⟨playE E v, ?_, fun k hk => ?_, rfl⟩
        · rw [playE_some h]
          simp only [List.length_reverse]
          rw [w2]
          omega
        · rw [ciGood_eq a hs k (by omega), hL, ciGood_eq v hv k (by omega), hM]
          simp only [Option.bind_some, if_true]
          rw [f1]
          simp only [Option.bind_some]
          rw [hp, playE_some h]
          rfl
      · refine ⟨playE E v, ?_, fun k hk => ?_, rfl⟩
        · rw [playE_none h]
          simp
        · rw [ciGood_eq a hs k (by omega), hL, ciGood_eq v hv k (by omega), hM]
          simp only [Option.bind_some, if_true]
          rw [pathG_out e2 h, playE_none h]
          rfl
theorem FnExactPathOnRing (a v : ByteArray) (hs : a.size ≤ 140737488351232) (hv : v.size ≤ 140737488351232) : ∃ k, laws_FnExactPathOnRing.f k a v = some true := by
  refine ⟨200001, ?_⟩
  obtain ⟨⟨r, c⟩, hlr, h1, h2⟩ := path_both hs hv
  simp only at hlr
  unfold laws_FnExactPathOnRing.f
  split
  · rfl
  split
  · rfl
  rw [h1 200001 (by omega)]
  simp only [Option.bind_some]
  rw [h2]
  simp only [Option.bind_some]
  rw [eqMoveS_same r (by omega) 200001 (by omega)]
  simp only [Option.bind_some, if_true, bne_self_eq_false]
  simp only [laws_FnExactPathOnRing.j0]
  rw [if_neg (by decide)]
  obtain ⟨y, hm, hy, hj⟩ := markMoveS_eq r (by omega) 200000 (by omega)
  rw [hm]
  simp only [Option.bind_some]
  rw [heldMoveS_eq y (by omega) (fun j h => hj j (by omega)) 200000 (by omega)]
  simp only [Option.bind_some]
  rw [if_neg (by omega), if_pos (by omega)]
  rw [h2]
  simp only [Option.bind_some]
  rw [eqMoveS_same r (by omega) 200000 (by omega)]
  simp only [Option.bind_some, if_true, bne_self_eq_false]
  simp only [laws_FnExactPathOnRing.j1]
  rw [if_neg (by decide), heldMoveS_eq y (by omega) (fun j h => hj j (by omega)) 199999 (by omega)]
  simp only [Option.bind_some]
  rw [if_neg (by omega), if_pos (by omega)]
end Go.Proofs.YtjgijaocinpkhaaDoor.Pure
