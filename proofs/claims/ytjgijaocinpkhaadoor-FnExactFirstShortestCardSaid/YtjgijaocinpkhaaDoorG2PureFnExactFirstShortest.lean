/- FnExactFirstShortest without Go: for all texts that memory holds and all rules, the program's FirstShortest is the reference's, and what it returned stays as it was. -/
import Derived.Test.YtjgijaocinpkhaaDoorG2LGall
import Derived.Test.YtjgijaocinpkhaaDoorG2XG0
import Derived.Test.YtjgijaocinpkhaaDoorG2XG1
import Derived.Test.YtjgijaocinpkhaaDoorG2XG10
import Derived.Test.YtjgijaocinpkhaaDoorG2XG11
import Derived.Test.YtjgijaocinpkhaaDoorG2XG2
import Derived.Test.YtjgijaocinpkhaaDoorG2XG7
namespace Go.Proofs.YtjgijaocinpkhaaDoor.Pure
set_option linter.unusedVariables false
set_option linter.unusedSimpArgs false
open Go Go.RowKit Go.Proofs.YtjgijaocinpkhaaDoorW.PrintWords Go.Proofs.YtjgijaocinpkhaaDoor.XG Go.Proofs.YtjgijaocinpkhaaDoorB Go.Proofs.YtjgijaocinpkhaaDoor.Pm Go.Proofs.YtjgijaocinpkhaaDoor.Srts
theorem first_both {a v : ByteArray} (hs : a.size ≤ 140737488351232) (hv : v.size ≤ 140737488351232) (o b l : Bool) : ∃ r : List S83 × Bool, r.1.length ≤ 100000 ∧ spec_FirstShortest.f 20000000 a v o b l = some r ∧ impl_FirstShortest.f a v o b l = some r := by
  unfold spec_FirstShortest.f impl_FirstShortest.f spec_ruTwo.f
  rw [reFew_eq a hs 20000000 (by omega), reFew_eq v hv 20000000 (by omega), impl_isReachLine_eq a hs, impl_isReachLine_eq v hv]
  simp only [Option.bind_some]
  cases hL : isLine 10 a with
  | false => exact ⟨([], false), by simp, rfl, rfl⟩
  | true =>
    simp only [if_true]
    cases hM : isLine 10 v with
    | false => exact ⟨([], false), by simp, rfl, rfl⟩
    | true =>
      simp only [if_true, Option.bind_some]
      obtain ⟨h1, h10, hl⟩ := isLine_size hL
      obtain ⟨g1, g10, gl⟩ := isLine_size hM
      have ha : lineN a.size a := ⟨rfl, hl⟩
      obtain ⟨E, e1, e2, e3, e4⟩ := byRule_foundR h1 h10 o b l ha
      obtain ⟨E', f1, f2, f3, f4⟩ := ruBack_found g1 g10 o b l (v := v) ⟨rfl, gl⟩
      rw [if_pos (by omega), e1, f1 20000000 (by omega)]
      simp only [Option.bind_some]
      rw [ruLeft_eq E' (by omega) a 20000000 (by omega)]
      simp only [Option.bind_some]
      by_cases hin : v ∈ Bfs.nodes E
      · have hvl : v.size = a.size := (e3 v hin).1
        rw [hvl] at f2 f3
        obtain ⟨e, he, hn⟩ := ent_at hin
        have hnear : ∀ m x, nearB E' m x = true ↔ (Bfs.Walk (nbR a.size o b l) m x e.node ∧ ∀ m', m' < m → ¬ Bfs.Walk (nbR a.size o b l) m' x e.node) := fun m x => by
          rw [nearB_iff f2.nodup, hn]
          exact Bfs.back_near f2 rfl (inv_nb h10 o b l) m x
        obtain ⟨w1, w2⟩ := e2.way rfl (by show (-1 : Int) < 0; decide) he (Nat.lt_succ_self _) hnear
        have hst : stepsTo E' a = (e.dep : Int) := by
          have := (hnear e.dep a).2 ⟨e2.walk rfl _ _ he, fun m' hm' hw => by
            have := e2.least rfl he hw
            omega⟩
          unfold nearB at this
          exact of_decide_eq_true this
        have hdep : e.dep ≤ 59049 := by
          have hfl := Bfs.get_lt he
          have := dep_le e2 rfl he
          omega
        rw [hst, if_neg (by omega), first_l0 h1 h10 o b l E' f4 e.dep a [] _ 20000000 ha w1 (by simp; omega) (by omega), playE_some hin, List.nil_append]
        exact ⟨_, by simp only [List.length_reverse]; rw [w2]; omega, rfl, rfl⟩
      · have hno : a ∉ Bfs.nodes E' := fun h => by
          have hvl : a.size = v.size := (f3 a h).1
          rw [← hvl] at f2 f3
          obtain ⟨j, e, he, hne⟩ := Bfs.mem_nodes.1 h
          obtain ⟨hw, _⟩ := (Bfs.back_near f2 rfl (inv_nb h10 o b l) e.dep a).1 ⟨j, e, he, hne, rfl⟩
          obtain ⟨j', e', he', hn', _⟩ := e2.reach rfl hw
          exact hin (Bfs.mem_nodes.2 ⟨j', e', he', hn'⟩)
        rw [stepsTo_none hno, if_pos (by decide), playE_none hin]
        exact ⟨_, by simp, rfl, rfl⟩
theorem FnExactFirstShortest (a v : ByteArray) (o b l : Bool) (hs : a.size ≤ 140737488351232) (hv : v.size ≤ 140737488351232) : ∃ k, laws_FnExactFirstShortest.f k a v o b l = some true := by
  refine ⟨20000000, ?_⟩
  obtain ⟨⟨r, c⟩, hlr, h1, h2⟩ := first_both hs hv o b l
  simp only at hlr
  unfold laws_FnExactFirstShortest.f
  split
  · rfl
  split
  · rfl
  rw [show laws_toRule.f o b l = some (o, b, l) from rfl]
  simp only [Option.bind_some]
  rw [h1, h2]
  simp only [Option.bind_some]
  rw [eqMoveS_same r (by omega) 20000000 (by omega)]
  simp only [Option.bind_some, if_true, bne_self_eq_false]
  simp only [laws_FnExactFirstShortest.j0]
  rw [if_neg (by decide)]
  obtain ⟨y, hm, hy, hj⟩ := markMoveS_eq r (by omega) 19999999 (by omega)
  rw [hm]
  simp only [Option.bind_some]
  rw [heldMoveS_eq y (by omega) (fun j h => hj j (by omega)) 19999999 (by omega)]
  simp only [Option.bind_some]
  rw [if_neg (by omega), if_pos (by omega)]
  rw [show laws_toRule.f o b l = some (o, b, l) from rfl]
  simp only [Option.bind_some]
  rw [h2]
  simp only [Option.bind_some]
  rw [eqMoveS_same r (by omega) 19999999 (by omega)]
  simp only [Option.bind_some, if_true, bne_self_eq_false]
  simp only [laws_FnExactFirstShortest.j1]
  rw [if_neg (by decide), heldMoveS_eq y (by omega) (fun j h => hj j (by omega)) 19999998 (by omega)]
  simp only [Option.bind_some]
  rw [if_neg (by omega), if_pos (by omega)]
end Go.Proofs.YtjgijaocinpkhaaDoor.Pure
