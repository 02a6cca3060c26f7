/- What a search finds among the lines of n signs: for all n up to 10. -/
import Derived.Test.YtjgijaocinpkhaaDoorLOmake
import Derived.Test.YtjgijaocinpkhaaDoorBfs
import Derived.Test.YtjgijaocinpkhaaDoorPm
import Derived.Test.YtjgijaocinpkhaaDoorSrts
import Derived.Test.YtjgijaocinpkhaaDoorXO0
import Derived.Test.YtjgijaocinpkhaaDoorXO1
import Derived.Test.YtjgijaocinpkhaaDoorXO2
namespace Go.Proofs.YtjgijaocinpkhaaDoor.XO
set_option linter.unusedVariables false
set_option linter.unusedSimpArgs false
open Go Go.RowKit Go.Proofs.YtjgijaocinpkhaaDoorW.PrintWords Go.Proofs.YtjgijaocinpkhaaDoorB Go.Proofs.YtjgijaocinpkhaaDoor.Pm Go.Proofs.YtjgijaocinpkhaaDoor.Srts

/-- lines of n signs -/
def lineN (n : Nat) (x : ByteArray) : Prop := x.size = n ∧ x.data.toList.all sgn = true
def words3 : Nat → List (List UInt8)
  | 0 => [[]]
  | n + 1 => (words3 n).flatMap fun w => [84 :: w, 70 :: w, 46 :: w]
theorem flat3_length {α β : Type} (f : α → List β) (h : ∀ x, (f x).length = 3) : ∀ l : List α, (l.flatMap f).length = 3 * l.length
  | [] => rfl
  | a :: l => by rw [List.flatMap_cons, List.length_append, h, flat3_length f h l, List.length_cons]; omega
theorem words3_length : ∀ n, (words3 n).length = 3 ^ n
  | 0 => rfl
  | n + 1 => by rw [words3, flat3_length _ (fun _ => rfl), words3_length n, Nat.pow_succ, Nat.mul_comm]
theorem mem_words3 : ∀ (n : Nat) (l : List UInt8), l.length = n → l.all sgn = true → l ∈ words3 n
  | 0, l, h, _ => by rw [List.length_eq_zero_iff.1 h]; exact List.mem_singleton.2 rfl
  | n + 1, [], h, _ => by simp at h
  | n + 1, c :: l, h, ha => by
    rw [List.all_cons, Bool.and_eq_true] at ha
    have ih := mem_words3 n l (by simpa using h) ha.2
    refine List.mem_flatMap.2 ⟨l, ih, ?_⟩
    have hc := ha.1
    unfold sgn at hc
    simp only [Bool.or_eq_true, beq_iff_eq] at hc
    rcases hc with (rfl | rfl) | rfl <;> simp
def allN (n : Nat) : List ByteArray := (words3 n).map fun l => ⟨l.toArray⟩
theorem allN_length (n : Nat) : (allN n).length = 3 ^ n := by unfold allN; rw [List.length_map, words3_length]
theorem allN_mem {n : Nat} {x : ByteArray} (h : lineN n x) : x ∈ allN n :=
  List.mem_map.2 ⟨x.data.toList, mem_words3 n _ (by rw [data_length]; exact h.1) h.2, Lib.mk_data x⟩
theorem lineN_most {n : Nat} (hn : n ≤ 10) {E : List PEnt} (hd : (Bfs.nodes E).Nodup) (hE : ∀ x ∈ Bfs.nodes E, lineN n x) : E.length ≤ 59049 := by
  have h := Bfs.nodup_le hd (fun x hx => allN_mem (hE x hx))
  rw [allN_length, show (Bfs.nodes E).length = E.length from List.length_map _] at h
  have h2 : 3 ^ n ≤ 3 ^ 10 := Nat.pow_le_pow_right (by decide) hn
  omega
/-- the neighbours of a text -/
def nbM (ms : ByteArray → List S83) (x : ByteArray) : List (S83 × ByteArray) := (ms x).map fun m => (m, mv x m.f0 m.f1)
theorem nodes_snoc (E : List PEnt) (e : PEnt) : Bfs.nodes (E ++ [e]) = Bfs.nodes E ++ [e.node] := by simp [Bfs.nodes]
theorem nodup_snoc {E : List PEnt} {e : PEnt} (h : (Bfs.nodes E).Nodup) (hn : e.node ∉ Bfs.nodes E) : (Bfs.nodes (E ++ [e])).Nodup := by
  rw [nodes_snoc]
  refine List.nodup_append.2 ⟨h, by simp, fun a ha b hb e' => ?_⟩
  rw [List.mem_singleton] at hb
  subst hb
  exact hn (e' ▸ ha)
theorem visit_nodup (i d : Nat) : ∀ (rest : List (S83 × ByteArray)) (E : List PEnt), (Bfs.nodes E).Nodup → (Bfs.nodes (Bfs.visit i d rest E)).Nodup
  | [], _, h => h
  | (m, y) :: rest, E, h => by
    unfold Bfs.visit
    split
    · exact visit_nodup i d rest E h
    · exact visit_nodup i d rest _ (nodup_snoc h (by assumption))
/-- no text lies deeper than its place -/
def Flat (E : List PEnt) : Prop := ∀ (j : Nat) (e : PEnt), E[j]? = some e → e.dep ≤ j
theorem visit_flat (i d : Nat) (hd : d ≤ i) : ∀ (rest : List (S83 × ByteArray)) (E : List PEnt), i < E.length → Flat E → Flat (Bfs.visit i d rest E)
  | [], _, _, h => h
  | (m, y) :: rest, E, hi, h => by
    unfold Bfs.visit
    split
    · exact visit_flat i d hd rest E hi h
    · refine visit_flat i d hd rest _ (by rw [List.length_append]; omega) (fun j e he => ?_)
      rcases Bfs.get_snoc he with he | ⟨rfl, rfl⟩
      · exact h j e he
      · show d + 1 ≤ E.length
        omega
theorem visitO_eq {n : Nat} (hn : n ≤ 10) (i d : Nat) (hd : d < 1000000) (x : ByteArray) : ∀ (l : List S83) (E : List PEnt), (∀ m ∈ l, impl_made.f x m.f0 m.f1 = some (mv x m.f0 m.f1) ∧ lineN n (mv x m.f0 m.f1)) → (∀ z ∈ Bfs.nodes E, lineN n z) → (Bfs.nodes E).Nodup →
    visitO i d x l E = some (Bfs.visit i d (l.map fun m => (m, mv x m.f0 m.f1)) E)
  | [], E, _, _, _ => rfl
  | m :: l, E, hl, hE, hnd => by
    obtain ⟨h1, h2⟩ := hl m List.mem_cons_self
    have hr := fun m' hm' => hl m' (List.mem_cons_of_mem _ hm')
    rw [visitO, h1, Option.bind_some, if_pos (by rw [h2.1]; omega), List.map_cons, Bfs.visit]
    by_cases hin : mv x m.f0 m.f1 ∈ Bfs.nodes E
    · rw [if_pos (inN_iff.2 hin), if_pos hin]
      exact visitO_eq hn i d hd x l E hr hE hnd
    · have hlen := lineN_most hn hnd hE
      rw [if_neg (fun h => hin (inN_iff.1 h)), if_neg hin, if_pos ⟨by omega, hd⟩]
      refine visitO_eq hn i d hd x l _ hr (fun z hz => ?_) (nodup_snoc hnd hin)
      rw [nodes_snoc, List.mem_append, List.mem_singleton] at hz
      rcases hz with hz | rfl
      · exact hE z hz
      · exact h2
theorem nb_line {n : Nat} {x : ByteArray} {l : List S83} (h : ∀ m ∈ l, lineN n (mv x m.f0 m.f1)) : ∀ p ∈ l.map (fun m => (m, mv x m.f0 m.f1)), lineN n p.2 := fun p hp => by
  obtain ⟨m, hm, rfl⟩ := List.mem_map.1 hp
  exact h m hm
theorem pathsO_eq {n : Nat} (hn : n ≤ 10) (M : ByteArray → Option (List S83)) (ms : ByteArray → List S83) (hM : ∀ x, lineN n x → M x = some (ms x) ∧ (ms x).length ≤ 1000000)
    (hm : ∀ x, lineN n x → ∀ m ∈ ms x, impl_made.f x m.f0 m.f1 = some (mv x m.f0 m.f1) ∧ lineN n (mv x m.f0 m.f1)) : ∀ (k i : Nat) (E : List PEnt), (∀ z ∈ Bfs.nodes E, lineN n z) → (Bfs.nodes E).Nodup → Flat E → pathsO M k i E = Bfs.bfs (nbM ms) k i E
  | 0, _, _, _, _, _ => rfl
  | k + 1, i, E, hE, hnd, hf => by
    rw [pathsO, Bfs.bfs]
    cases he : E[i]? with
    | none => rfl
    | some e =>
      simp only
      have hle := hE e.node (Bfs.mem_nodes.2 ⟨i, e, he, rfl⟩)
      have hi := Bfs.get_lt he
      have hd := hf i e he
      have hlen := lineN_most hn hnd hE
      obtain ⟨h1, h2⟩ := hM e.node hle
      rw [h1, Option.bind_some, if_pos h2, visitO_eq hn i e.dep (by omega) e.node (ms e.node) E (hm e.node hle) hE hnd, Option.bind_some]
      exact pathsO_eq hn M ms hM hm k (i + 1) _ (Bfs.visit_all i e.dep _ E hE (nb_line fun m hm' => (hm e.node hle m hm').2)) (visit_nodup i e.dep _ E hnd) (visit_flat i e.dep hd _ E hi hf)
theorem mv_all' {a : ByteArray} (h : a.data.toList.all sgn = true) (f t : Int) (f0 : 0 ≤ f) (f1 : f < (a.size : Int)) : (mv a f t).data.toList.all sgn = true := by
  have hf : f.toNat < a.data.toList.length := by rw [data_length]; omega
  unfold mv
  rw [List.all_eq_true] at h ⊢
  intro x hx
  have hx2 : x ∈ (a.data.toList.set t.toNat (a.data.toList.getD f.toNat 0)).set f.toNat 46 := by simpa using hx
  rcases List.mem_or_eq_of_mem_set hx2 with hx3 | rfl
  · rcases List.mem_or_eq_of_mem_set hx3 with hx4 | rfl
    · exact h x hx4
    · rw [List.getD_eq_getElem?_getD, List.getElem?_eq_getElem hf]
      exact h _ (List.getElem_mem hf)
  · rfl
end Go.Proofs.YtjgijaocinpkhaaDoor.XO
