/- A search in breadth, and the first shortest ways that it finds: plain facts, for all graphs that are given by lists of neighbours. -/
import Derived.WalkKit
namespace Go.Proofs.YtjgijaocinpkhaaDoor.Bfs

/-- what is found: a text, from which place, by which move, how deep -/
structure Ent (α β : Type) where
  node : α
  par : Int
  mov : β
  dep : Nat

section
variable {α β : Type}
def nodes (E : List (Ent α β)) : List α := E.map (·.node)
theorem mem_nodes {E : List (Ent α β)} {y : α} : y ∈ nodes E ↔ ∃ (j : Nat) (e : Ent α β), E[j]? = some e ∧ e.node = y := by
  unfold nodes
  rw [List.mem_map]
  constructor
  · rintro ⟨e, he, rfl⟩
    obtain ⟨j, hj⟩ := List.mem_iff_getElem?.1 he
    exact ⟨j, e, hj, rfl⟩
  · rintro ⟨j, e, hj, rfl⟩
    exact ⟨e, List.mem_of_getElem? hj, rfl⟩
theorem get_snoc {γ : Type} {E : List γ} {x e : γ} {j : Nat} (h : (E ++ [x])[j]? = some e) : E[j]? = some e ∨ (j = E.length ∧ e = x) := by
  rcases Nat.lt_trichotomy j E.length with hl | hl | hl
  · rw [List.getElem?_append_left hl] at h
    exact .inl h
  · subst hl
    simp at h
    exact .inr ⟨rfl, h.symm⟩
  · rw [List.getElem?_eq_none (by simp; omega)] at h
    cases h
theorem get_old {γ : Type} {E : List γ} {x e : γ} {j : Nat} (h : E[j]? = some e) : (E ++ [x])[j]? = some e := by
  rw [List.getElem?_append_left (List.getElem?_eq_some_iff.1 h).1]
  exact h
theorem get_lt {γ : Type} {E : List γ} {e : γ} {j : Nat} (h : E[j]? = some e) : j < E.length := (List.getElem?_eq_some_iff.1 h).1
theorem same_place {j j' : Nat} {e e' : Ent α β} {E : List (Ent α β)} (h : (nodes E).Nodup) (he : E[j]? = some e) (he' : E[j']? = some e') (hn : e.node = e'.node) : j = j' := by
  have h1 : (nodes E)[j]? = some e.node := by unfold nodes; rw [List.getElem?_map, he]; rfl
  have h2 : (nodes E)[j']? = some e'.node := by unfold nodes; rw [List.getElem?_map, he']; rfl
  exact (List.getElem?_inj (get_lt h1) h).1 (by rw [h1, h2, hn])
inductive Walk (nb : α → List (β × α)) : Nat → α → α → Prop
  | nil (x : α) : Walk nb 0 x x
  | cons {n : Nat} {x y z : α} {m : β} : (m, y) ∈ nb x → Walk nb n y z → Walk nb (n + 1) x z

theorem Walk.append {nb : α → List (β × α)} {n n' : Nat} {x y z : α} (h : Walk nb n x y) (h' : Walk nb n' y z) : Walk nb (n + n') x z := by
  induction h with
  | nil x => rw [Nat.zero_add]; exact h'
  | cons hm _ ih => rw [Nat.succ_add]; exact .cons hm (ih h')
theorem Walk.snoc {nb : α → List (β × α)} {n : Nat} {x y z : α} {m : β} (h : Walk nb n x y) (hm : (m, z) ∈ nb y) : Walk nb (n + 1) x z := h.append (.cons hm (.nil z))
theorem Walk.zero_eq {nb : α → List (β × α)} {x y : α} (h : Walk nb 0 x y) : x = y := by
  cases h
  rfl
theorem Walk.succ_inv {nb : α → List (β × α)} {n : Nat} {x z : α} (h : Walk nb (n + 1) x z) : ∃ m y, (m, y) ∈ nb x ∧ Walk nb n y z := by
  cases h with
  | cons hm h => exact ⟨_, _, hm, h⟩
/-- the way in the tree from one place down to another -/
inductive Anc (E : List (Ent α β)) : List β → Nat → Nat → Prop
  | nil (j : Nat) : Anc E [] j j
  | cons {l : List β} {j0 j1 j : Nat} {e : Ent α β} : 0 < j1 → E[j1]? = some e → e.par = (j0 : Int) → Anc E l j1 j → Anc E (e.mov :: l) j0 j

theorem Anc.snoc {E : List (Ent α β)} {l : List β} {j0 p j : Nat} {e : Ent α β} (h : Anc E l j0 p) (h0 : 0 < j) (he : E[j]? = some e) (hp : e.par = (p : Int)) : Anc E (l ++ [e.mov]) j0 j := by
  induction h with
  | nil => exact .cons h0 he hp (.nil j)
  | cons g0 g1 g2 _ ih => exact .cons g0 g1 g2 (ih hp)
/-- step by step, the first neighbour that is one nearer -/
def greedy (nb : α → List (β × α)) (near : Nat → α → Bool) : Nat → α → Option (List β)
  | 0, _ => some []
  | n + 1, x => match (nb x).find? (fun p => near n p.2) with
    | some p => (greedy nb near n p.2).map (p.1 :: ·)
    | none => none
theorem find_at {γ : Type} {p : γ → Bool} : ∀ {l : List γ} {i : Nat} {x : γ}, l[i]? = some x → p x = true → (∀ j y, j < i → l[j]? = some y → p y = false) → l.find? p = some x
  | [], i, x, h, _, _ => by simp at h
  | a :: l, 0, x, h, hp, _ => by
    simp at h
    subst h
    simp [hp]
  | a :: l, i + 1, x, h, hp, hn => by
    have ha := hn 0 a (by omega) rfl
    rw [List.find?_cons, ha]
    exact find_at (l := l) (i := i) (by simpa using h) hp (fun j y hj hy => hn (j + 1) y (by omega) (by simpa using hy))
/-- from the end back to the root: the moves, the last one first -/
def back (E : List (Ent α β)) : Nat → Nat → List β
  | 0, _ => []
  | k + 1, j => match E[j]? with
    | none => []
    | some e => if e.par < 0 then [] else e.mov :: back E k e.par.toNat
end

section
variable {α β : Type} [DecidableEq α]

def visit (i d : Nat) : List (β × α) → List (Ent α β) → List (Ent α β)
  | [], E => E
  | (m, y) :: r, E => if y ∈ nodes E then visit i d r E else visit i d r (E ++ [⟨y, (i : Int), m, d + 1⟩])

def bfs (nb : α → List (β × α)) : Nat → Nat → List (Ent α β) → Option (List (Ent α β))
  | 0, _, _ => none
  | k + 1, i, E => match E[i]? with
    | none => some E
    | some e => bfs nb k (i + 1) (visit i e.dep (nb e.node) E)

/-- at which place a neighbour stands first -/
def ix (nb : α → List (β × α)) (x y : α) : Nat := ((nb x).map Prod.snd).idxOf y

structure Inv (nb : α → List (β × α)) (r : Ent α β) (i : Nat) (done : List (β × α)) (E : List (Ent α β)) : Prop where
  root : E[0]? = some r
  nodup : (nodes E).Nodup
  mono : ∀ (j j' : Nat) (e e' : Ent α β), j ≤ j' → E[j]? = some e → E[j']? = some e' → e.dep ≤ e'.dep
  near : ∀ (j : Nat) (e e' : Ent α β), E[j]? = some e → E[i]? = some e' → e.dep ≤ e'.dep + 1
  tree : ∀ (j : Nat) (e : Ent α β), 0 < j → E[j]? = some e → ∃ (p : Nat) (q : Ent α β), p < j ∧ p ≤ i ∧ e.par = (p : Int) ∧ E[p]? = some q ∧ e.dep = q.dep + 1 ∧ (nb q.node)[ix nb q.node e.node]? = some (e.mov, e.node) ∧ ∀ (p' : Nat) (q' : Ent α β), p' < p → E[p']? = some q' → e.node ∉ (nb q'.node).map Prod.snd
  order : ∀ (j j' : Nat) (e e' : Ent α β), 0 < j → j < j' → E[j]? = some e → E[j']? = some e' → e.par < e'.par ∨ (e.par = e'.par ∧ ∀ q, E[e.par.toNat]? = some q → ix nb q.node e.node < ix nb q.node e'.node)
  closed : ∀ (p : Nat) (q : Ent α β) (m : β) (y : α), p < i → E[p]? = some q → (m, y) ∈ nb q.node → ∃ (j : Nat) (e : Ent α β), E[j]? = some e ∧ e.node = y ∧ e.dep ≤ q.dep + 1
  part : ∀ (q : Ent α β) (m : β) (y : α), E[i]? = some q → (m, y) ∈ done → ∃ (j : Nat) (e : Ent α β), E[j]? = some e ∧ e.node = y ∧ e.dep ≤ q.dep + 1
  mine : ∀ (j : Nat) (e : Ent α β), 0 < j → E[j]? = some e → e.par = (i : Int) → e.node ∈ done.map Prod.snd

theorem Inv.start (nb : α → List (β × α)) (r : Ent α β) : Inv nb r 0 [] [r] where
  root := rfl
  nodup := by simp [nodes]
  mono j j' e e' _ h h' := by
    cases j with
    | succ j => simp at h
    | zero =>
      cases j' with
      | succ j' => simp at h'
      | zero => rw [h] at h'; cases h'; exact Nat.le_refl _
  near j e e' h h' := by
    cases j with
    | succ j => simp at h
    | zero => rw [h] at h'; cases h'; omega
  tree j e hj h := by
    cases j with
    | succ j => simp at h
    | zero => omega
  order j j' e e' h0 h1 _ h := by
    cases j' with
    | succ j' => simp at h
    | zero => omega
  closed p q m y h := by omega
  part q m y _ h := by cases h
  mine j e hj h := by
    cases j with
    | succ j => simp at h
    | zero => omega

theorem Inv.skip {nb : α → List (β × α)} {r : Ent α β} {i : Nat} {done : List (β × α)} {E : List (Ent α β)} (h : Inv nb r i done E) {m : β} {y : α} (hy : y ∈ nodes E) : Inv nb r i (done ++ [(m, y)]) E where
  root := h.root
  nodup := h.nodup
  mono := h.mono
  near := h.near
  tree := h.tree
  order := h.order
  closed := h.closed
  part q m' y' hq hm := by
    rcases List.mem_append.1 hm with hm | hm
    · exact h.part q m' y' hq hm
    · simp only [List.mem_singleton, Prod.mk.injEq] at hm
      obtain ⟨rfl, rfl⟩ := hm
      obtain ⟨j, e, hj, rfl⟩ := mem_nodes.1 hy
      exact ⟨j, e, hj, rfl, h.near j e q hj hq⟩
  mine j e h0 hj hp := by
    rw [List.map_append]
    exact List.mem_append_left _ (h.mine j e h0 hj hp)

theorem Inv.add {nb : α → List (β × α)} {r : Ent α β} {i : Nat} {done rest : List (β × α)} {E : List (Ent α β)} (h : Inv nb r i done E) {q : Ent α β} (hq : E[i]? = some q) {m : β} {y : α}
    (hn : nb q.node = done ++ (m, y) :: rest) (hy : y ∉ nodes E) : Inv nb r i (done ++ [(m, y)]) (E ++ [⟨y, (i : Int), m, q.dep + 1⟩]) := by
  have hil := get_lt hq
  have hyd : y ∉ done.map Prod.snd := by
    intro hm
    obtain ⟨⟨m', y'⟩, hm2, h3⟩ := List.mem_map.1 hm
    obtain ⟨j, e, hj, he, _⟩ := h.part q m' y' hq hm2
    have h4 : y' = y := h3
    exact hy (mem_nodes.2 ⟨j, e, hj, he.trans h4⟩)
  have hix : ix nb q.node y = done.length := by
    unfold ix
    rw [hn, List.map_append, List.idxOf_append, if_neg hyd, List.map_cons, List.idxOf_cons_self, List.length_map]
    omega
  have hqn : (E ++ [(⟨y, (i : Int), m, q.dep + 1⟩ : Ent α β)])[i]? = some q := get_old hq
  constructor
  · exact get_old h.root
  · unfold nodes
    rw [List.map_append, List.nodup_append]
    refine ⟨h.nodup, by simp, ?_⟩
    intro a ha b hb
    simp at hb
    subst hb
    rintro rfl
    exact hy ha
  · intro j j' e e' hjj hj hj'
    rcases get_snoc hj with hj | ⟨rfl, rfl⟩
    · rcases get_snoc hj' with hj' | ⟨rfl, rfl⟩
      · exact h.mono j j' e e' hjj hj hj'
      · exact h.near j e q hj hq
    · rcases get_snoc hj' with hj' | ⟨rfl, rfl⟩
      · have := get_lt hj'
        omega
      · exact Nat.le_refl _
  · intro j e e' hj hi
    rw [hqn] at hi
    cases hi
    rcases get_snoc hj with hj | ⟨rfl, rfl⟩
    · exact h.near j e q hj hq
    · exact Nat.le_refl _
  · intro j e h0 hj
    rcases get_snoc hj with hj | ⟨rfl, rfl⟩
    · obtain ⟨p, q', h1, h2, h3, h4, h5, h6, h7⟩ := h.tree j e h0 hj
      refine ⟨p, q', h1, h2, h3, get_old h4, h5, h6, fun p' q'' hp hq'' => ?_⟩
      have hlt : p' < E.length := by
        have := get_lt h4
        omega
      rw [List.getElem?_append_left hlt] at hq''
      exact h7 p' q'' hp hq''
    · refine ⟨i, q, hil, Nat.le_refl _, rfl, hqn, rfl, ?_, fun p' q' hp hq' => ?_⟩
      · show (nb q.node)[ix nb q.node y]? = some (m, y)
        rw [hix, hn, List.getElem?_append_right (Nat.le_refl _)]
        simp
      · rw [List.getElem?_append_left (by omega)] at hq'
        intro hm
        obtain ⟨⟨m', y'⟩, hm, he⟩ := List.mem_map.1 hm
        obtain ⟨j, e, hj, he2, _⟩ := h.closed p' q' m' y' hp hq' hm
        have he3 : y' = y := he
        exact hy (mem_nodes.2 ⟨j, e, hj, he2.trans he3⟩)
  · intro j j' e e' h0 h1 hj hj'
    rcases get_snoc hj with hj | ⟨rfl, rfl⟩
    · rcases get_snoc hj' with hj' | ⟨rfl, rfl⟩
      · rcases h.order j j' e e' h0 h1 hj hj' with ho | ⟨ho, ho2⟩
        · exact .inl ho
        · refine .inr ⟨ho, fun q' hq' => ?_⟩
          obtain ⟨p, q2, g1, g2, g3, g4, _⟩ := h.tree j e h0 hj
          have hp : e.par.toNat = p := by omega
          rw [hp] at hq'
          have hlt := get_lt g4
          rw [List.getElem?_append_left hlt] at hq'
          exact ho2 q' (by rw [hp]; exact hq')
      · obtain ⟨p, q2, g1, g2, g3, g4, _⟩ := h.tree j e h0 hj
        by_cases hpi : p = i
        · refine .inr ⟨by rw [g3, hpi], fun q' hq' => ?_⟩
          have hp : e.par.toNat = i := by omega
          rw [hp, hqn] at hq'
          cases hq'
          have hm := h.mine j e h0 hj (by rw [g3, hpi])
          show ix nb q.node e.node < ix nb q.node y
          rw [hix]
          unfold ix
          rw [hn, List.map_append, List.idxOf_append, if_pos hm]
          have := List.idxOf_lt_length_of_mem hm
          rwa [List.length_map] at this
        · exact .inl (by rw [g3]; show (p : Int) < (i : Int); omega)
    · have := get_lt hj'
      simp at this
      omega
  · intro p q' m' y' hp hq' hm
    rw [List.getElem?_append_left (by omega)] at hq'
    obtain ⟨j, e, hj, he, hd⟩ := h.closed p q' m' y' hp hq' hm
    exact ⟨j, e, get_old hj, he, hd⟩
  · intro q' m' y' hq' hm
    rw [hqn] at hq'
    cases hq'
    rcases List.mem_append.1 hm with hm | hm
    · obtain ⟨j, e, hj, he, hd⟩ := h.part q m' y' hq hm
      exact ⟨j, e, get_old hj, he, hd⟩
    · simp only [List.mem_singleton, Prod.mk.injEq] at hm
      obtain ⟨rfl, rfl⟩ := hm
      exact ⟨E.length, ⟨y', (i : Int), m', q.dep + 1⟩, by simp, rfl, Nat.le_refl _⟩
  · intro j e h0 hj hp
    rw [List.map_append, List.mem_append]
    rcases get_snoc hj with hj | ⟨rfl, rfl⟩
    · exact .inl (h.mine j e h0 hj hp)
    · exact .inr (by simp)

theorem Inv.next {nb : α → List (β × α)} {r : Ent α β} {i : Nat} {E : List (Ent α β)} {q : Ent α β} (h : Inv nb r i (nb q.node) E) (hq : E[i]? = some q) : Inv nb r (i + 1) [] E where
  root := h.root
  nodup := h.nodup
  mono := h.mono
  near j e e' hj hi := by
    have h1 := h.near j e q hj hq
    have h2 := h.mono i (i + 1) q e' (Nat.le_succ _) hq hi
    omega
  tree j e h0 hj := by
    obtain ⟨p, q', h1, h2, h3⟩ := h.tree j e h0 hj
    exact ⟨p, q', h1, by omega, h3⟩
  order := h.order
  closed p q' m y hp hq' hm := by
    by_cases e : p = i
    · subst e
      rw [hq] at hq'
      cases hq'
      exact h.part q m y hq hm
    · exact h.closed p q' m y (by omega) hq' hm
  part q' m y _ hm := by cases hm
  mine j e h0 hj hp := by
    obtain ⟨p, q', h1, h2, h3, _⟩ := h.tree j e h0 hj
    omega

theorem visit_inv {nb : α → List (β × α)} {r : Ent α β} {i : Nat} {q : Ent α β} : ∀ (rest done : List (β × α)) (E : List (Ent α β)), Inv nb r i done E → E[i]? = some q → nb q.node = done ++ rest → Inv nb r i (nb q.node) (visit i q.dep rest E) ∧ (visit i q.dep rest E)[i]? = some q
  | [], done, E, h, hq, hn => by
    rw [List.append_nil] at hn
    rw [hn]
    exact ⟨h, hq⟩
  | (m, y) :: rest, done, E, h, hq, hn => by
    unfold visit
    by_cases hy : y ∈ nodes E
    · rw [if_pos hy]
      exact visit_inv rest (done ++ [(m, y)]) E (h.skip hy) hq (by rw [hn]; simp)
    · rw [if_neg hy]
      exact visit_inv rest (done ++ [(m, y)]) _ (h.add hq hn hy) (get_old hq) (by rw [hn]; simp)

theorem bfs_inv {nb : α → List (β × α)} {r : Ent α β} : ∀ (k i : Nat) (E E' : List (Ent α β)), Inv nb r i [] E → bfs nb k i E = some E' → ∃ i', Inv nb r i' [] E' ∧ E'[i']? = none
  | 0, _, _, _, _, h => by cases h
  | k + 1, i, E, E', h, hb => by
    unfold bfs at hb
    split at hb
    · rename_i hn
      cases hb
      exact ⟨i, h, hn⟩
    · rename_i q hq
      obtain ⟨h1, h2⟩ := visit_inv (nb q.node) [] E h hq rfl
      exact bfs_inv k (i + 1) _ E' (h1.next h2) hb

/-- all that is found from a root -/
def Found (nb : α → List (β × α)) (r : Ent α β) (E : List (Ent α β)) : Prop := ∃ i, Inv nb r i [] E ∧ E[i]? = none

theorem found {nb : α → List (β × α)} {r : Ent α β} {k : Nat} {E : List (Ent α β)} (h : bfs nb k 0 [r] = some E) : Found nb r E := bfs_inv k 0 [r] E (Inv.start nb r) h

/-! It ends. -/
theorem nodup_le {U : List α} : ∀ {l : List α}, l.Nodup → (∀ x ∈ l, x ∈ U) → l.length ≤ U.length := by
  intro l
  induction l generalizing U with
  | nil => simp
  | cons a l ih =>
    intro hn hs
    rw [List.nodup_cons] at hn
    have ha := hs a List.mem_cons_self
    have h1 : (U.erase a).length = U.length - 1 := by rw [List.length_erase, if_pos ha]
    have h2 := ih (U := U.erase a) hn.2 (fun x hx => by
      have hx2 := hs x (List.mem_cons_of_mem _ hx)
      have hne : x ≠ a := by rintro rfl; exact hn.1 hx
      exact (List.mem_erase_of_ne hne).2 hx2)
    have h3 : 0 < U.length := List.length_pos_of_mem ha
    rw [List.length_cons]
    omega

theorem visit_all {P : α → Prop} (i d : Nat) : ∀ (rest : List (β × α)) (E : List (Ent α β)), (∀ x ∈ nodes E, P x) → (∀ p ∈ rest, P p.2) → ∀ x ∈ nodes (visit i d rest E), P x
  | [], _, h, _ => h
  | (m, y) :: rest, E, h, hr => by
    unfold visit
    split
    · exact visit_all i d rest E h (fun p hp => hr p (List.mem_cons_of_mem _ hp))
    · refine visit_all i d rest _ (fun x hx => ?_) (fun p hp => hr p (List.mem_cons_of_mem _ hp))
      unfold nodes at hx
      rw [List.map_append, List.mem_append] at hx
      rcases hx with hx | hx
      · exact h x hx
      · simp at hx
        subst hx
        exact hr _ List.mem_cons_self

theorem bfs_ends {nb : α → List (β × α)} {P : α → Prop} {U : List α} (hP : ∀ x, P x → ∀ p ∈ nb x, P p.2) (hU : ∀ x, P x → x ∈ U) {r : Ent α β} :
    ∀ (d k i : Nat) (E : List (Ent α β)), Inv nb r i [] E → (∀ x ∈ nodes E, P x) → U.length ≤ i + d → d < k → ∃ E', bfs nb k i E = some E' ∧ (∀ x ∈ nodes E', P x) := by
  intro d
  induction d with
  | zero =>
    intro k i E h hE hi hk
    obtain ⟨k, rfl⟩ : ∃ m, k = m + 1 := ⟨k - 1, by omega⟩
    have hl := nodup_le h.nodup (fun x hx => hU x (hE x hx))
    unfold nodes at hl
    rw [List.length_map] at hl
    unfold bfs
    rw [List.getElem?_eq_none (by omega)]
    exact ⟨E, rfl, hE⟩
  | succ d ih =>
    intro k i E h hE hi hk
    obtain ⟨k, rfl⟩ : ∃ m, k = m + 1 := ⟨k - 1, by omega⟩
    unfold bfs
    split
    · exact ⟨E, rfl, hE⟩
    · rename_i q hq
      obtain ⟨h1, h2⟩ := visit_inv (nb q.node) [] E h hq rfl
      exact ih k (i + 1) _ (h1.next h2) (visit_all i q.dep _ E hE (fun p hp => hP q.node (hE _ (mem_nodes.2 ⟨i, q, hq, rfl⟩)) p hp)) (by omega) (by omega)

theorem bfs_some {nb : α → List (β × α)} {P : α → Prop} {U : List α} (hP : ∀ x, P x → ∀ p ∈ nb x, P p.2) (hU : ∀ x, P x → x ∈ U) {r : Ent α β} (hr : P r.node) (k : Nat) (hk : U.length < k) :
    ∃ E, bfs nb k 0 [r] = some E ∧ Found nb r E ∧ (∀ x ∈ nodes E, P x) ∧ E.length ≤ U.length := by
  obtain ⟨E, h1, h2⟩ := bfs_ends hP hU U.length k 0 [r] (Inv.start nb r) (fun x hx => by simp [nodes] at hx; subst hx; exact hr) (by omega) hk
  refine ⟨E, h1, found h1, h2, ?_⟩
  obtain ⟨i, hi, _⟩ := found h1
  have hl := nodup_le hi.nodup (fun x hx => hU x (h2 x hx))
  unfold nodes at hl
  rwa [List.length_map] at hl

section
variable {nb : α → List (β × α)} {r : Ent α β} {E : List (Ent α β)}

theorem Found.root (h : Found nb r E) : E[0]? = some r := by obtain ⟨i, h, _⟩ := h; exact h.root
theorem Found.nodup (h : Found nb r E) : (nodes E).Nodup := by obtain ⟨i, h, _⟩ := h; exact h.nodup
theorem Found.mono (h : Found nb r E) {j j' : Nat} {e e' : Ent α β} (hj : j ≤ j') (he : E[j]? = some e) (he' : E[j']? = some e') : e.dep ≤ e'.dep := by obtain ⟨i, h, _⟩ := h; exact h.mono j j' e e' hj he he'
theorem Found.tree (h : Found nb r E) {j : Nat} {e : Ent α β} (h0 : 0 < j) (he : E[j]? = some e) : ∃ (p : Nat) (q : Ent α β), p < j ∧ e.par = (p : Int) ∧ E[p]? = some q ∧ e.dep = q.dep + 1 ∧ (nb q.node)[ix nb q.node e.node]? = some (e.mov, e.node) ∧ ∀ (p' : Nat) (q' : Ent α β), p' < p → E[p']? = some q' → e.node ∉ (nb q'.node).map Prod.snd := by
  obtain ⟨i, h, _⟩ := h
  obtain ⟨p, q, h1, _, h2⟩ := h.tree j e h0 he
  exact ⟨p, q, h1, h2⟩
theorem Found.order (h : Found nb r E) {j j' : Nat} {e e' : Ent α β} (h0 : 0 < j) (hj : j < j') (he : E[j]? = some e) (he' : E[j']? = some e') : e.par < e'.par ∨ (e.par = e'.par ∧ ∀ q, E[e.par.toNat]? = some q → ix nb q.node e.node < ix nb q.node e'.node) := by
  obtain ⟨i, h, _⟩ := h
  exact h.order j j' e e' h0 hj he he'
theorem Found.closed (h : Found nb r E) {p : Nat} {q : Ent α β} {m : β} {y : α} (hq : E[p]? = some q) (hm : (m, y) ∈ nb q.node) : ∃ (j : Nat) (e : Ent α β), E[j]? = some e ∧ e.node = y ∧ e.dep ≤ q.dep + 1 := by
  obtain ⟨i, h, hn⟩ := h
  refine h.closed p q m y ?_ hq hm
  have h1 := get_lt hq
  rcases Nat.lt_or_ge i E.length with g | g
  · rw [List.getElem?_eq_getElem g] at hn
    cases hn
  · omega
theorem Found.same (h : Found nb r E) {j j' : Nat} {e e' : Ent α β} (he : E[j]? = some e) (he' : E[j']? = some e') (hn : e.node = e'.node) : j = j' ∧ e = e' := by
  have := same_place h.nodup he he' hn
  subst this
  rw [he] at he'
  exact ⟨rfl, Option.some.inj he'⟩
theorem tree_mem {q : Ent α β} {e : Ent α β} (h : (nb q.node)[ix nb q.node e.node]? = some (e.mov, e.node)) : (e.mov, e.node) ∈ nb q.node := List.mem_of_getElem? h

theorem Found.walk (h : Found nb r E) (hr : r.dep = 0) : ∀ (j : Nat) (e : Ent α β), E[j]? = some e → Walk nb e.dep r.node e.node := by
  intro j
  induction j using Nat.strongRecOn with
  | _ j ih =>
    intro e he
    by_cases h0 : j = 0
    · subst h0
      rw [h.root] at he
      cases he
      rw [hr]
      exact .nil _
    · obtain ⟨p, q, h1, _, h3, h4, h5, _⟩ := h.tree (by omega) he
      rw [h4]
      exact (ih p h1 q h3).snoc (tree_mem h5)
theorem Found.reach (h : Found nb r E) (hr : r.dep = 0) {n : Nat} {y : α} (hw : Walk nb n r.node y) : ∃ (j : Nat) (e : Ent α β), E[j]? = some e ∧ e.node = y ∧ e.dep ≤ n := by
  have aux : ∀ (n : Nat) (x y : α), Walk nb n x y → ∀ (j : Nat) (e : Ent α β), E[j]? = some e → e.node = x → ∃ (j' : Nat) (e' : Ent α β), E[j']? = some e' ∧ e'.node = y ∧ e'.dep ≤ e.dep + n := by
    intro n x y hw
    induction hw with
    | nil x => exact fun j e he hx => ⟨j, e, he, hx, by omega⟩
    | cons hm _ ih =>
      intro j e he hx
      subst hx
      obtain ⟨j1, e1, g1, g2, g3⟩ := h.closed he hm
      obtain ⟨j2, e2, k1, k2, k3⟩ := ih j1 e1 g1 g2
      exact ⟨j2, e2, k1, k2, by omega⟩
  obtain ⟨j, e, h1, h2, h3⟩ := aux n r.node y hw 0 r h.root rfl
  exact ⟨j, e, h1, h2, by omega⟩
theorem Found.least (h : Found nb r E) (hr : r.dep = 0) {n : Nat} {j : Nat} {e : Ent α β} (he : E[j]? = some e) (hw : Walk nb n r.node e.node) : e.dep ≤ n := by
  obtain ⟨j', e', h1, h2, h3⟩ := h.reach hr hw
  obtain ⟨_, rfl⟩ := h.same h1 he h2
  exact h3

theorem Anc.walk (h : Found nb r E) {l : List β} {j0 j : Nat} (ha : Anc E l j0 j) : ∀ {e0 v : Ent α β}, E[j0]? = some e0 → E[j]? = some v → Walk nb l.length e0.node v.node ∧ v.dep = e0.dep + l.length := by
  induction ha with
  | nil j =>
    intro e0 v h0 hv
    rw [h0] at hv
    cases hv
    exact ⟨.nil _, rfl⟩
  | @cons l j0 j1 j e g0 g1 g2 _ ih =>
    intro e0 v h0 hv
    obtain ⟨k1, k2⟩ := ih g1 hv
    obtain ⟨p, q, _, h3, h4, h5, h6, _⟩ := h.tree g0 g1
    have : p = j0 := by omega
    subst this
    rw [h0] at h4
    cases h4
    exact ⟨.cons (tree_mem h6) k1, by rw [k2, h5, List.length_cons]; omega⟩

/-- from a place before the one in the tree, as deep, no way of that length leads there -/
theorem Anc.first (h : Found nb r E) (hr : r.dep = 0) {l : List β} {j0 j : Nat} (ha : Anc E l j0 j) : ∀ {j' : Nat} {e' e0 v : Ent α β}, E[j0]? = some e0 → E[j]? = some v → E[j']? = some e' → j' < j0 → e'.dep = e0.dep → ¬ Walk nb l.length e'.node v.node := by
  induction ha with
  | nil j =>
    intro j' e' e0 v h0 hv h' hlt hd hw
    obtain ⟨e5, _⟩ := h.same h' hv hw.zero_eq
    omega
  | @cons l j0 j1 j e1 g0 g1 g2 hA ih =>
    intro j' e' e0 v h0 hv h' hlt hd hw
    rw [List.length_cons] at hw
    obtain ⟨m, u, hm, hw⟩ := hw.succ_inv
    · skip
      obtain ⟨hk1, hk2⟩ := hA.walk h g1 hv
      obtain ⟨p1, q1, _, t3, t4, t5, _⟩ := h.tree g0 g1
      have hp1 : p1 = j0 := by omega
      subst hp1
      rw [h0] at t4
      cases t4
      obtain ⟨ju, u1, hu, hun, hud⟩ := h.closed h' hm
      subst hun
      have hge := h.least hr hv ((h.walk hr ju u1 hu).append hw)
      have hu0 : 0 < ju := by
        rcases Nat.eq_zero_or_pos ju with g | g
        · subst g
          rw [h.root] at hu
          cases hu
          omega
        · exact g
      obtain ⟨p, q, _, s3, s4, s5, _, s7⟩ := h.tree hu0 hu
      have hpj : p ≤ j' := by
        rcases Nat.lt_or_ge j' p with g | g
        · exact absurd (List.mem_map.2 ⟨_, hm, rfl⟩) (s7 j' e' g h')
        · exact g
      have hju : ju < j1 := by
        rcases Nat.lt_trichotomy ju j1 with g | g | g
        · exact g
        · subst g
          rw [hu] at g1
          cases g1
          omega
        · rcases h.order g0 g g1 hu with o | ⟨o, _⟩ <;> omega
      exact ih g1 hv hu hju (by omega) hw

theorem idx_le {l : List (β × α)} {i : Nat} {p : β × α} (h : l[i]? = some p) : (l.map Prod.snd).idxOf p.2 ≤ i := by
  induction l generalizing i with
  | nil => simp at h
  | cons a l ih =>
    rw [List.map_cons, List.idxOf_cons]
    cases i with
    | zero =>
      simp at h
      subst h
      simp
    | succ i =>
      have := ih (i := i) (by simpa using h)
      cases (a.2 == p.2) with
      | true => simp
      | false => simp only [cond_false]; omega

theorem Anc.greedy (h : Found nb r E) (hr : r.dep = 0) {near : Nat → α → Bool} {l : List β} {j0 j : Nat} (ha : Anc E l j0 j) : ∀ {e0 v : Ent α β}, E[j0]? = some e0 → E[j]? = some v →
    (∀ n x, near n x = true ↔ (Walk nb n x v.node ∧ ∀ n', n' < n → ¬ Walk nb n' x v.node)) → Bfs.greedy nb near l.length e0.node = some l := by
  induction ha with
  | nil j => intro _ _ _ _ _; rfl
  | @cons l j0 j1 j e1 g0 g1 g2 hA ih =>
    intro e0 v h0 hv hnear
    obtain ⟨hk1, hk2⟩ := hA.walk h g1 hv
    obtain ⟨p1, q1, _, t3, t4, t5, t6, _⟩ := h.tree g0 g1
    have hp1 : p1 = j0 := by omega
    subst hp1
    rw [h0] at t4
    cases t4
    have hf : (nb e0.node).find? (fun p => near l.length p.2) = some (e1.mov, e1.node) := by
      refine find_at t6 ((hnear _ _).2 ⟨hk1, fun n' hn' hw => ?_⟩) (fun i y hi hy => ?_)
      · have := h.least hr hv ((h.walk hr j1 e1 g1).append hw)
        omega
      · rw [Bool.eq_false_iff]
        intro hn
        obtain ⟨hw, _⟩ := (hnear _ _).1 hn
        obtain ⟨m', y'⟩ := y
        have hm : (m', y') ∈ nb e0.node := List.mem_of_getElem? hy
        obtain ⟨ju, u1, hu, hun, hud⟩ := h.closed h0 hm
        have hix : ix nb e0.node y' ≤ i := idx_le hy
        have hw2 : Walk nb l.length y' v.node := hw
        subst hun
        have hge := h.least hr hv ((h.walk hr ju u1 hu).append hw2)
        have hu0 : 0 < ju := by
          rcases Nat.eq_zero_or_pos ju with g | g
          · subst g
            rw [h.root] at hu
            cases hu
            omega
          · exact g
        obtain ⟨p, q, _, s3, s4, s5, _, s7⟩ := h.tree hu0 hu
        have hpj : p ≤ p1 := by
          rcases Nat.lt_or_ge p1 p with g | g
          · exact absurd (List.mem_map.2 ⟨_, hm, rfl⟩) (s7 p1 e0 g h0)
          · exact g
        have hju : ju < j1 := by
          rcases Nat.lt_trichotomy ju j1 with g | g | g
          · exact g
          · subst g
            rw [hu] at g1
            cases g1
            omega
          · rcases h.order g0 g g1 hu with o | ⟨o, o2⟩
            · omega
            · have h5 := o2 e0 (by rw [t3, Int.toNat_natCast]; exact h0)
              omega
        exact hA.first h hr g1 hv hu hju (by omega) hw2
    show Bfs.greedy nb near (l.length + 1) e0.node = _
    unfold Bfs.greedy
    rw [hf]
    simp only
    rw [ih g1 hv hnear]
    rfl

theorem Found.back (h : Found nb r E) (hp : r.par < 0) : ∀ (j k : Nat), j < E.length → j < k → Anc E (Bfs.back E k j).reverse 0 j := by
  intro j
  induction j using Nat.strongRecOn with
  | _ j ih =>
    intro k hj hk
    obtain ⟨k, rfl⟩ : ∃ m, k = m + 1 := ⟨k - 1, by omega⟩
    obtain ⟨e, he⟩ : ∃ e, E[j]? = some e := ⟨E[j], List.getElem?_eq_getElem hj⟩
    unfold Bfs.back
    rw [he]
    simp only
    by_cases h0 : j = 0
    · subst h0
      rw [h.root] at he
      cases he
      rw [if_pos hp]
      exact .nil 0
    · obtain ⟨p, q, h1, h2, h3, _⟩ := h.tree (by omega) he
      rw [if_neg (by omega), h2, Int.toNat_natCast, List.reverse_cons]
      exact (ih p h1 k (get_lt h3) (by omega)).snoc (by omega) he h2

/-- the first shortest way, both ways of telling it -/
theorem Found.way (h : Found nb r E) (hr : r.dep = 0) (hp : r.par < 0) {near : Nat → α → Bool} {j k : Nat} {v : Ent α β} (hv : E[j]? = some v) (hk : j < k)
    (hnear : ∀ n x, near n x = true ↔ (Walk nb n x v.node ∧ ∀ n', n' < n → ¬ Walk nb n' x v.node)) : Bfs.greedy nb near v.dep r.node = some (Bfs.back E k j).reverse ∧ (Bfs.back E k j).length = v.dep := by
  have hA := h.back hp j k (get_lt hv) hk
  obtain ⟨_, h2⟩ := hA.walk h h.root hv
  rw [hr, Nat.zero_add] at h2
  have h3 := hA.greedy h hr h.root hv hnear
  rw [← h2] at h3
  exact ⟨h3, by rw [h2, List.length_reverse]⟩

/-- what is found backwards tells how far each is from the end -/
theorem back_near {nb' : α → List (β × α)} {r' : Ent α β} {E' : List (Ent α β)} (h' : Found nb' r' E') (hr' : r'.dep = 0) (hinv : ∀ x y, (∃ m, (m, y) ∈ nb x) ↔ (∃ m, (m, x) ∈ nb' y)) (n : Nat) (x : α) :
    (∃ (j : Nat) (e : Ent α β), E'[j]? = some e ∧ e.node = x ∧ e.dep = n) ↔ (Walk nb n x r'.node ∧ ∀ n', n' < n → ¬ Walk nb n' x r'.node) := by
  have turn : ∀ n x y, Walk nb n x y → Walk nb' n y x := by
    intro n x y hw
    induction hw with
    | nil x => exact .nil x
    | cons hm _ ih =>
      obtain ⟨m', hm'⟩ := (hinv _ _).1 ⟨_, hm⟩
      exact ih.snoc hm'
  have turn' : ∀ n x y, Walk nb' n x y → Walk nb n y x := by
    intro n x y hw
    induction hw with
    | nil x => exact .nil x
    | cons hm _ ih =>
      obtain ⟨m', hm'⟩ := (hinv _ _).2 ⟨_, hm⟩
      exact ih.snoc hm'
  constructor
  · rintro ⟨j, e, he, rfl, rfl⟩
    refine ⟨turn' _ _ _ (h'.walk hr' j e he), fun n' hn hw => ?_⟩
    have := h'.least hr' he (turn _ _ _ hw)
    omega
  · rintro ⟨hw, hmin⟩
    obtain ⟨j, e, he, hn, hd⟩ := h'.reach hr' (turn _ _ _ hw)
    refine ⟨j, e, he, hn, ?_⟩
    rcases Nat.lt_or_ge e.dep n with g | g
    · subst hn
      exact absurd (turn' _ _ _ (h'.walk hr' j e he)) (hmin _ g)
    · omega
end
end
end Go.Proofs.YtjgijaocinpkhaaDoor.Bfs
