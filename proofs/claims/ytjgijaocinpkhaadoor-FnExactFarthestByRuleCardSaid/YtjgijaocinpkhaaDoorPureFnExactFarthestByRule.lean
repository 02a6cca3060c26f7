/- FnExactFarthestByRule without Go: for every text that memory holds and all rules, the program's FarthestByRule is the reference's. -/
import Derived.Test.YtjgijaocinpkhaaDoorLUall
import Derived.Test.YtjgijaocinpkhaaDoorXU1
import Derived.Test.YtjgijaocinpkhaaDoorXU5
import Derived.Test.YtjgijaocinpkhaaDoorXU6
import Derived.Test.YtjgijaocinpkhaaDoorXU9
namespace Go.Proofs.YtjgijaocinpkhaaDoor.Pure
set_option linter.unusedVariables false
set_option linter.unusedSimpArgs false
open Go Go.RowKit Go.Proofs.YtjgijaocinpkhaaDoorW.PrintWords Go.Proofs.YtjgijaocinpkhaaDoor.XU Go.Proofs.YtjgijaocinpkhaaDoorB
theorem far_both (a : ByteArray) (o b l : Bool) (hs : a.size ≤ 140737488351232) (k : Nat) (hk : 60000 ≤ k) : ∃ r : ByteArray × Int × Bool, spec_FarthestByRule.f k a o b l = some r ∧ impl_FarthestByRule.f a o b l = some r := by
  unfold spec_FarthestByRule.f impl_FarthestByRule.f
  rw [reFew_eq a hs k (by omega), impl_isReachLine_eq a hs]
  simp only [Option.bind_some]
  cases hL : isLine 10 a with
  | false => exact ⟨_, rfl, rfl⟩
  | true =>
    obtain ⟨h1, h10, hl⟩ := isLine_size hL
    obtain ⟨E, e1, e2, e3, e4, e5⟩ := byRule_found h1 h10 o b l (a := a) ⟨rfl, hl⟩
    have hroot := e3.root
    have h0 : 0 < E.length := Bfs.get_lt hroot
    have hd0 : depF E a = 0 := depF_at e3.nodup hroot
    have ha : a ∈ Bfs.nodes E := Bfs.mem_nodes.2 ⟨0, _, hroot, rfl⟩
    obtain ⟨r, r1, r2⟩ := farO_best (fun x hx => by have := (e4 x hx).1; omega) e3.nodup (by omega) h0
    obtain ⟨q, q1, q2⟩ := far_l0 e3.nodup (by omega) E.length 0 k a (by omega) (by omega) ha (fun j e hj => by omega)
    have hq : q = r := (q2.2 r r2.1).uniq (r2.2 q q2.1)
    subst hq
    unfold spec_ruReach.f
    rw [e1, e2]
    simp only [Option.bind_some, if_true]
    rw [r1]
    have hz : ((0 : Nat) : Int) = 0 := rfl
    rw [hd0, hz] at q1
    exact ⟨_, q1, rfl⟩
theorem FnExactFarthestByRule (a : ByteArray) (o b l : Bool) (hs : a.size ≤ 140737488351232) : ∃ k, laws_FnExactFarthestByRule.f k a o b l = some true := by
  refine ⟨100000, ?_⟩
  have hr := far_both a o b l hs 100000 (by decide)
  obtain ⟨r, h1, h2⟩ := hr
  unfold laws_FnExactFarthestByRule.f
  split
  · rfl
  rw [show laws_toRule.f o b l = some (o, b, l) from rfl]
  simp only [Option.bind_some]
  rw [h1, h2]
  simp
end Go.Proofs.YtjgijaocinpkhaaDoor.Pure
