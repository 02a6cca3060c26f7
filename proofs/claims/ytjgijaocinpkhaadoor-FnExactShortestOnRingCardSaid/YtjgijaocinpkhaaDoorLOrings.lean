/- The rings that are reached from a ring: the program's search and the reference's graph tell the same, for all rings of 3 to 9 signs. -/
import Derived.Test.YtjgijaocinpkhaaDoorLOreach0
import Derived.Test.YtjgijaocinpkhaaDoorLOrcanin
import Derived.Test.YtjgijaocinpkhaaDoorLOcimoves
import Derived.Test.YtjgijaocinpkhaaDoorLOfarT
import Derived.Test.YtjgijaocinpkhaaDoorXO0
import Derived.Test.YtjgijaocinpkhaaDoorXO1
import Derived.Test.YtjgijaocinpkhaaDoorXO2
import Derived.Test.YtjgijaocinpkhaaDoorXO3
import Derived.Test.YtjgijaocinpkhaaDoorXO4
import Derived.Test.YtjgijaocinpkhaaDoorXO5
namespace Go.Proofs.YtjgijaocinpkhaaDoor.XO
set_option linter.unusedVariables false
set_option linter.unusedSimpArgs false
open Go Go.RowKit Go.Proofs.YtjgijaocinpkhaaDoorW.PrintWords Go.Proofs.YtjgijaocinpkhaaDoorB Go.Proofs.YtjgijaocinpkhaaDoor.Pm Go.Proofs.YtjgijaocinpkhaaDoor.Srts

theorem rmoves_line {n : Nat} (hn : n ≤ 9) {x : ByteArray} (h : lineN n x) {m : S83} (hm : m ∈ rmoves x) : impl_made.f x m.f0 m.f1 = some (mv x m.f0 m.f1) ∧ spec_liMake.f x m.f0 m.f1 = some (mv x m.f0 m.f1) ∧ lineN n (mv x m.f0 m.f1) := by
  obtain ⟨f, t⟩ := m
  have hs : x.size = n := h.1
  obtain ⟨f0, f1, t0, t1, ne⟩ := rcan_in ((rmoves_mem x f t).1 hm)
  exact ⟨impl_made_eq x (by omega) f t f0 f1 t0 t1 ne, liMake_eq x (by omega) f t f0 f1 t0 t1 ne, by rw [← hs]; exact ⟨mv_size x f t, mv_all' h.2 f t f0 f1⟩⟩
theorem visit_nodes (i d : Nat) : ∀ (l : List (S83 × ByteArray)) (E : List PEnt), (∃ S, Bfs.nodes (Bfs.visit i d l E) = Bfs.nodes E ++ S) ∧ ∀ p ∈ l, p.2 ∈ Bfs.nodes (Bfs.visit i d l E)
  | [], E => ⟨⟨[], by rw [Bfs.visit, List.append_nil]⟩, by simp⟩
  | (m, y) :: l, E => by
    rw [Bfs.visit]
    split
    · rename_i hy
      obtain ⟨⟨S, h1⟩, h2⟩ := visit_nodes i d l E
      refine ⟨⟨S, h1⟩, fun p hp => ?_⟩
      rcases List.mem_cons.1 hp with rfl | hp
      · rw [h1]
        exact List.mem_append_left _ hy
      · exact h2 p hp
    · obtain ⟨⟨S, h1⟩, h2⟩ := visit_nodes i d l (E ++ [⟨y, (i : Int), m, d + 1⟩])
      rw [nodes_snoc] at h1
      refine ⟨⟨[y] ++ S, by rw [h1, List.append_assoc]⟩, fun p hp => ?_⟩
      rcases List.mem_cons.1 hp with rfl | hp
      · rw [h1]
        exact List.mem_append_left _ (List.mem_append_right _ (List.mem_singleton.2 rfl))
      · exact h2 p hp
theorem nextS_eq {n : Nat} (hn : n ≤ 10) (i d : Nat) (x : ByteArray) : ∀ (l : List S83) (E : List PEnt) (ns : List Int), (∀ m ∈ l, spec_liMake.f x m.f0 m.f1 = some (mv x m.f0 m.f1) ∧ lineN n (mv x m.f0 m.f1)) → (∀ z ∈ Bfs.nodes E, lineN n z) → (Bfs.nodes E).Nodup →
    nextS x l (Bfs.nodes E) ns = some (Bfs.nodes (Bfs.visit i d (l.map fun m => (m, mv x m.f0 m.f1)) E), ns ++ (l.map fun m => (m, mv x m.f0 m.f1)).map fun p => ((posS p.2 (Bfs.nodes (Bfs.visit i d (l.map fun m => (m, mv x m.f0 m.f1)) E)) : Nat) : Int))
  | [], E, ns, _, _, _ => by
    rw [nextS, List.map_nil, Bfs.visit, List.map_nil, List.append_nil]
  | m :: l, E, ns, hl, hE, hnd => by
    obtain ⟨h1, h2⟩ := hl m List.mem_cons_self
    have hr := fun m' hm' => hl m' (List.mem_cons_of_mem _ hm')
    have hlen := lineN_most hn hnd hE
    rw [nextS, h1, Option.bind_some, if_pos (by rw [show (Bfs.nodes E).length = E.length from List.length_map _]; omega), List.map_cons, Bfs.visit]
    by_cases hin : mv x m.f0 m.f1 ∈ Bfs.nodes E
    · have ha : addS (mv x m.f0 m.f1) (Bfs.nodes E) = Bfs.nodes E := by unfold addS; rw [if_pos (posS_at hin).1]
      rw [ha, if_pos hin, nextS_eq hn i d x l E _ hr hE hnd]
      obtain ⟨⟨S, hS⟩, _⟩ := visit_nodes i d (l.map fun m => (m, mv x m.f0 m.f1)) E
      rw [List.map_cons, List.append_assoc, List.singleton_append, hS, posS_append hin]
    · have ha : addS (mv x m.f0 m.f1) (Bfs.nodes E) = Bfs.nodes (E ++ [⟨mv x m.f0 m.f1, (i : Int), m, d + 1⟩]) := by
        unfold addS
        rw [posS_no hin, if_neg (Nat.lt_irrefl _), nodes_snoc]
      have hps : posS (mv x m.f0 m.f1) (Bfs.nodes E) = posS (mv x m.f0 m.f1) (Bfs.nodes (E ++ [⟨mv x m.f0 m.f1, (i : Int), m, d + 1⟩])) := by
        rw [posS_no hin]
        refine (posS_get (nodup_snoc hnd hin) ?_).symm
        rw [nodes_snoc]
        simp
      rw [ha, if_neg hin, hps]
      have hin2 : mv x m.f0 m.f1 ∈ Bfs.nodes (E ++ [⟨mv x m.f0 m.f1, (i : Int), m, d + 1⟩]) := by rw [nodes_snoc]; simp
      rw [nextS_eq hn i d x l (E ++ [⟨mv x m.f0 m.f1, (i : Int), m, d + 1⟩]) _ hr (fun z hz => by
        rw [nodes_snoc, List.mem_append, List.mem_singleton] at hz
        rcases hz with hz | rfl
        · exact hE z hz
        · exact h2) (nodup_snoc hnd hin)]
      obtain ⟨⟨S, hS⟩, _⟩ := visit_nodes i d (l.map fun m => (m, mv x m.f0 m.f1)) (E ++ [⟨mv x m.f0 m.f1, (i : Int), m, d + 1⟩])
      rw [List.map_cons, List.append_assoc, List.singleton_append, hS, posS_append hin2]
theorem plc_append {nb : ByteArray → List (S83 × ByteArray)} {R S : List ByteArray} {x : ByteArray} (h : ∀ p ∈ nb x, p.2 ∈ R) : plc nb (R ++ S) x = plc nb R x := by
  unfold plc
  exact List.map_congr_left fun p hp => by rw [posS_append (h p hp)]
theorem reachC_eq {n : Nat} (hn : n ≤ 10) (M : ByteArray → Option (List S83)) (ms : ByteArray → List S83) (hM : ∀ x, lineN n x → M x = some (ms x) ∧ (ms x).length ≤ 1000000)
    (hm : ∀ x, lineN n x → ∀ m ∈ ms x, spec_liMake.f x m.f0 m.f1 = some (mv x m.f0 m.f1) ∧ lineN n (mv x m.f0 m.f1)) : ∀ (k i : Nat) (E E' : List PEnt) (N : List (List Int)), (∀ z ∈ Bfs.nodes E, lineN n z) → (Bfs.nodes E).Nodup → i ≤ E.length →
    N = ((Bfs.nodes E).take i).map (plc (nbM ms) (Bfs.nodes E)) → (∀ x ∈ (Bfs.nodes E).take i, ∀ p ∈ nbM ms x, p.2 ∈ Bfs.nodes E) → Bfs.bfs (nbM ms) k i E = some E' →
    reachC M k i (Bfs.nodes E) N = some (Bfs.nodes E', (Bfs.nodes E').map (plc (nbM ms) (Bfs.nodes E'))) ∧ Closed (nbM ms) (Bfs.nodes E')
  | 0, _, _, _, _, _, _, _, _, _, h => by cases h
  | k + 1, i, E, E', N, hE, hnd, hi, hN, hc, h => by
    have hlE : (Bfs.nodes E).length = E.length := List.length_map _
    rw [Bfs.bfs] at h
    rw [reachC]
    cases he : E[i]? with
    | none =>
      rw [he] at h
      cases h
      have hie : i = E.length := by
        have := List.getElem?_eq_none_iff.1 he
        omega
      rw [hie, ← hlE, List.take_length] at hN hc
      rw [if_neg (by omega), hN]
      exact ⟨rfl, hnd, hc⟩
    | some e =>
      rw [he] at h
      simp only at h
      have hle := hE e.node (Bfs.mem_nodes.2 ⟨i, e, he, rfl⟩)
      have hil := Bfs.get_lt he
      have hlen := lineN_most hn hnd hE
      obtain ⟨h1, h2⟩ := hM e.node hle
      have hNl : N.length = i := by rw [hN, List.length_map, List.length_take]; omega
      have hrd : rdOf ByteArray.empty (Bfs.nodes E) (i : Int) = e.node := nodes_rd he
      rw [if_pos (by omega), hrd, h1, Option.bind_some, if_pos ⟨h2, by omega⟩, nextS_eq hn i e.dep e.node (ms e.node) E [] (hm e.node hle) hE hnd, Option.bind_some]
      obtain ⟨⟨S, hS⟩, hin⟩ := visit_nodes i e.dep ((ms e.node).map fun m => (m, mv e.node m.f0 m.f1)) E
      have hge : (Bfs.nodes E)[i]? = some e.node := by unfold Bfs.nodes; rw [List.getElem?_map, he]; rfl
      have htk : (Bfs.nodes (Bfs.visit i e.dep (nbM ms e.node) E)).take (i + 1) = (Bfs.nodes E).take i ++ [e.node] := by
        rw [show nbM ms e.node = (ms e.node).map fun m => (m, mv e.node m.f0 m.f1) from rfl, hS, List.take_append_of_le_length (by omega), List.take_add_one, hge]
        rfl
      have hall : ∀ x ∈ (Bfs.nodes E).take i ++ [e.node], ∀ p ∈ nbM ms x, p.2 ∈ Bfs.nodes (Bfs.visit i e.dep (nbM ms e.node) E) := fun x hx p hp => by
        rcases List.mem_append.1 hx with hx | hx
        · rw [show nbM ms e.node = (ms e.node).map fun m => (m, mv e.node m.f0 m.f1) from rfl, hS]
          exact List.mem_append_left _ (hc x hx p hp)
        · rw [List.mem_singleton] at hx
          subst hx
          exact hin p hp
      refine reachC_eq hn M ms hM hm k (i + 1) _ E' _ (Bfs.visit_all i e.dep _ E hE (nb_line fun m hm' => (hm e.node hle m hm').2)) (visit_nodup i e.dep _ E hnd) ?_ ?_ ?_ h
      · have : (Bfs.nodes (Bfs.visit i e.dep (nbM ms e.node) E)).length = (Bfs.visit i e.dep (nbM ms e.node) E).length := List.length_map _
        have h3 := Bfs.visit_length i e.dep (nbM ms e.node) E
        show i + 1 ≤ (Bfs.visit i e.dep (nbM ms e.node) E).length
        omega
      · show N ++ _ = ((Bfs.nodes (Bfs.visit i e.dep (nbM ms e.node) E)).take (i + 1)).map _
        rw [htk, List.map_append, hN]
        congr 1
        refine List.map_congr_left fun x hx => ?_
        show _ = plc (nbM ms) (Bfs.nodes (Bfs.visit i e.dep (nbM ms e.node) E)) x
        rw [show nbM ms e.node = (ms e.node).map fun m => (m, mv e.node m.f0 m.f1) from rfl, hS, plc_append (hc x hx)]
      · show ∀ x ∈ (Bfs.nodes (Bfs.visit i e.dep (nbM ms e.node) E)).take (i + 1), _
        rw [htk]
        exact hall
/-- the rings that are reached: the program's and the reference's -/
theorem ring_found {n : Nat} (h3 : 3 ≤ n) (hn : n ≤ 9) {a : ByteArray} (ha : lineN n a) : ∃ E : List PEnt, ringO 100000 a = some E ∧ ringG 3000 100000 a = some (Bfs.nodes E, (Bfs.nodes E).map (plc (nbM rmoves) (Bfs.nodes E))) ∧ Closed (nbM rmoves) (Bfs.nodes E) ∧
    Bfs.Found (nbM rmoves) ⟨a, -1, ⟨0, 0⟩, 0⟩ E ∧ (∀ x ∈ Bfs.nodes E, lineN n x) ∧ E.length ≤ 59049 := by
  have hs : a.size = n := ha.1
  obtain ⟨E, e1, e2, e3, e4⟩ := Bfs.bfs_some (nb := nbM rmoves) (P := lineN n) (U := allN n) (r := (⟨a, -1, ⟨0, 0⟩, 0⟩ : PEnt))
    (fun x hx p hp => nb_line (l := rmoves x) (fun m hm => (rmoves_line hn hx hm).2.2) p hp) (fun x hx => allN_mem hx) ha 100000 (by
      rw [allN_length]
      have : 3 ^ n ≤ 3 ^ 10 := Nat.pow_le_pow_right (by decide) (by omega)
      omega)
  have hE : ∀ z ∈ Bfs.nodes [(⟨a, -1, ⟨0, 0⟩, 0⟩ : PEnt)], lineN n z := fun z hz => by
    simp [Bfs.nodes] at hz
    subst hz
    exact ha
  have hN : (Bfs.nodes [(⟨a, -1, ⟨0, 0⟩, 0⟩ : PEnt)]).Nodup := by simp [Bfs.nodes]
  have hF : Flat [(⟨a, -1, ⟨0, 0⟩, 0⟩ : PEnt)] := fun j e he => by
    cases j with
    | zero => cases he; exact Nat.le_refl _
    | succ j => simp at he
  obtain ⟨g1, g2⟩ := reachC_eq (n := n) (by omega) (fun s => spec_ciMoves.f 3000 s) rmoves (fun x hx => ⟨ciMoves_eq x (by rw [hx.1]; exact h3) (by rw [hx.1]; exact hn) hx.2 3000 (by omega), by have := rmoves_length x; have := hx.1; omega⟩) (fun x hx m hm => ⟨(rmoves_line hn hx hm).2.1, (rmoves_line hn hx hm).2.2⟩) 100000 0 [(⟨a, -1, ⟨0, 0⟩, 0⟩ : PEnt)] E [] hE hN (Nat.zero_le _) rfl (by simp) e1
  refine ⟨E, ?_, g1, g2, e2, e3, lineN_most (by omega) e2.nodup e3⟩
  unfold ringO
  rw [if_pos (by omega), pathsO_eq (n := n) (by omega) _ rmoves (fun x hx => ⟨impl_ringMoves_eq x (by rw [hx.1]; exact h3) (by rw [hx.1]; exact hn) 2000 (by omega), by have := rmoves_length x; have := hx.1; omega⟩) (fun x hx m hm => ⟨(rmoves_line hn hx hm).1, (rmoves_line hn hx hm).2.2⟩) 100000 0 _ hE hN hF]
  exact e1
end Go.Proofs.YtjgijaocinpkhaaDoor.XO
