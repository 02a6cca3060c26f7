/- Parts that grow together, told by a forest whose ways are shortened, and told by labels that are merged: plain facts, for all finite sets. -/
import Derived.WalkKit
namespace Go.Proofs.Ytpelhinjoambfaa.Uf
section
variable {α : Type}
def upd [DecidableEq α] (U : α → α) (x r : α) : α → α := fun y => if y = x then r else U y
theorem upd_same [DecidableEq α] (U : α → α) (x r : α) : upd U x r x = r := if_pos rfl
theorem upd_ne [DecidableEq α] (U : α → α) {x y : α} (r : α) (h : y ≠ x) : upd U x r y = U y := if_neg h
/-- the root of a place, and how far it is -/
inductive Rt (U : α → α) : Nat → α → α → Prop
  | here {x : α} : U x = x → Rt U 0 x x
  | up {n : Nat} {x r : α} : U x ≠ x → Rt U n (U x) r → Rt U (n + 1) x r
theorem Rt.fix {U : α → α} {n : Nat} {x r : α} (h : Rt U n x r) : U r = r := by
  induction h with
  | here h => exact h
  | up _ _ ih => exact ih
theorem Rt.uniq {U : α → α} {n n' : Nat} {x r r' : α} (h : Rt U n x r) (h' : Rt U n' x r') : r = r' ∧ n = n' := by
  induction h generalizing n' with
  | here h =>
    cases h' with
    | here _ => exact ⟨rfl, rfl⟩
    | up g _ => exact absurd h g
  | up h _ ih =>
    cases h' with
    | here g => exact absurd g h
    | up _ g =>
      obtain ⟨e1, e2⟩ := ih g
      exact ⟨e1, by omega⟩
/-- the root, and the forest behind the search -/
def rootU [DecidableEq α] : Nat → (α → α) → α → Option (α × (α → α))
  | 0, _, _ => none
  | f + 1, U, x => if U x = x then some (U x, U) else (rootU f U (U x)).bind fun q => some (q.1, upd q.2 x q.1)
/-- the same roots, no place farther away -/
def Same (U U' : α → α) : Prop := ∀ n y r, Rt U n y r → ∃ n', n' ≤ n ∧ Rt U' n' y r
theorem Same.refl (U : α → α) : Same U U := fun n _ _ h => ⟨n, Nat.le_refl _, h⟩
theorem Same.trans {U U1 U2 : α → α} (h : Same U U1) (k : Same U1 U2) : Same U U2 := fun n y r hr => by
  obtain ⟨n1, h1, h2⟩ := h n y r hr
  obtain ⟨n2, h3, h4⟩ := k n1 y r h2
  exact ⟨n2, Nat.le_trans h3 h1, h4⟩
theorem same_upd [DecidableEq α] {U : α → α} {n : Nat} {x r : α} (h : Rt U n x r) (hx : x ≠ r) : Same U (upd U x r) := by
  intro k y s hy
  have hr : upd U x r r = r := by rw [upd_ne U r (fun e => hx e.symm)]; exact h.fix
  induction hy with
  | @here y hy =>
    by_cases e : y = x
    · subst e
      have := (h.uniq (.here hy)).1
      exact absurd this.symm hx
    · exact ⟨0, Nat.le_refl _, .here (by rw [upd_ne U r e]; exact hy)⟩
  | @up k y s hn hs ih =>
    by_cases e : y = x
    · subst e
      obtain ⟨rfl, _⟩ := h.uniq (.up hn hs)
      exact ⟨1, by omega, .up (by rw [upd_same]; exact fun e => hx e.symm) (by rw [upd_same]; exact .here hr)⟩
    · obtain ⟨n', h1, h2⟩ := ih
      exact ⟨n' + 1, by omega, .up (by rw [upd_ne U r e]; exact hn) (by rw [upd_ne U r e]; exact h2)⟩
theorem rootU_eq [DecidableEq α] : ∀ (f n : Nat) (U : α → α) (x r : α), Rt U n x r → n < f → ∃ U', rootU f U x = some (r, U') ∧ Same U U' ∧ (∀ y, ¬ (∃ n s, Rt U n y s) → U' y = U y)
  | 0, n, U, x, r, _, h => by omega
  | f + 1, n, U, x, r, h, hf => by
    rw [rootU]
    cases h with
    | here h => exact ⟨U, by rw [if_pos h, h], Same.refl U, fun _ _ => rfl⟩
    | @up n _ _ hn hs =>
      rw [if_neg hn]
      obtain ⟨U1, e1, e2, e3⟩ := rootU_eq f n U (U x) r hs (by omega)
      rw [e1, Option.bind_some]
      have hx : x ≠ r := fun e => hn (by rw [e]; exact hs.fix)
      obtain ⟨n1, _, h1⟩ := e2 _ x r (.up hn hs)
      exact ⟨_, rfl, e2.trans (same_upd h1 hx), fun y hy => by
        rw [upd_ne _ _ (fun e => hy ⟨_, _, by rw [e]; exact .up hn hs⟩)]
        exact e3 y hy⟩
/-- one root is hung below another -/
theorem hang [DecidableEq α] {U : α → α} {a b : α} (ha : U a = a) (hb : U b = b) (hab : a ≠ b) {n : Nat} {y s : α} (h : Rt U n y s) : ∃ n', n' ≤ n + 1 ∧ Rt (upd U a b) n' y (if s = a then b else s) := by
  have hb' : upd U a b b = b := by rw [upd_ne U b (fun e => hab e.symm)]; exact hb
  induction h with
  | @here y hy =>
    by_cases e : y = a
    · subst e
      rw [if_pos rfl]
      exact ⟨1, by omega, .up (by rw [upd_same]; exact fun e => hab e.symm) (by rw [upd_same]; exact .here hb')⟩
    · rw [if_neg e]
      exact ⟨0, by omega, .here (by rw [upd_ne U b e]; exact hy)⟩
  | @up n y s hn hs ih =>
    have e : y ≠ a := fun e => hn (by rw [e]; exact ha)
    obtain ⟨n', h1, h2⟩ := ih
    exact ⟨n' + 1, by omega, .up (by rw [upd_ne U b e]; exact hn) (by rw [upd_ne U b e]; exact h2)⟩
end
theorem countP_one {α : Type} [DecidableEq α] (p q : α → Bool) (a : α) (hp : p a = true) (hq : q a = false) : ∀ (l : List α), l.Nodup → a ∈ l → (∀ x ∈ l, x ≠ a → p x = q x) → l.countP p = l.countP q + 1
  | [], _, h, _ => by cases h
  | b :: l, hn, h, hx => by
    rw [List.nodup_cons] at hn
    rw [List.countP_cons, List.countP_cons]
    by_cases e : b = a
    · subst e
      have : l.countP p = l.countP q := List.countP_congr fun x hm => by
        rw [hx x (List.mem_cons_of_mem _ hm) (fun e => hn.1 (e ▸ hm))]
      rw [this, if_pos hp, hq]
      simp
    · have hm : a ∈ l := (List.mem_cons.1 h).resolve_left (fun e' => e e'.symm)
      rw [countP_one p q a hp hq l hn.2 hm (fun x hxm => hx x (List.mem_cons_of_mem _ hxm)), hx b List.mem_cons_self e]
      omega
/-- labels: each is its own label's -/
structure Lab (n : Nat) (P : List Int) : Prop where
  len : P.length = n
  lt : ∀ i, i < n → 0 ≤ P.getD i 0 ∧ P.getD i 0 < (n : Int)
  fix : ∀ i, i < n → P.getD (P.getD i 0).toNat 0 = P.getD i 0
def fixes (n : Nat) (P : List Int) : Nat := (List.range n).countP fun i => decide (P.getD i 0 = (i : Int))
/-- one label takes another's place -/
def merge (low high : Int) (P : List Int) : List Int := P.map fun p => if p = high then low else p
theorem merge_at {low high : Int} {P : List Int} {i : Nat} (h : i < P.length) : (merge low high P).getD i 0 = if P.getD i 0 = high then low else P.getD i 0 := by
  unfold merge
  rw [List.getD_eq_getElem?_getD, List.getD_eq_getElem?_getD, List.getElem?_map, List.getElem?_eq_getElem h]
  rfl
theorem merge_same (p : Int) (P : List Int) : merge p p P = P := by
  unfold merge
  rw [show (fun q : Int => if q = p then p else q) = id from funext fun q => by
    by_cases e : q = p
    · rw [if_pos e, e]; rfl
    · rw [if_neg e]; rfl]
  exact List.map_id P
theorem Lab.merge {n : Nat} {P : List Int} (h : Lab n P) {low high : Int} {i k : Nat} (hi : i < n) (hk : k < n) (hl : P.getD i 0 = low) (hh : P.getD k 0 = high) (hne : low ≠ high) : Lab n (merge low high P) ∧ fixes n P = fixes n (Uf.merge low high P) + 1 := by
  have at_ : ∀ j, j < n → (Uf.merge low high P).getD j 0 = if P.getD j 0 = high then low else P.getD j 0 := fun j hj => merge_at (by rw [h.len]; exact hj)
  have hl0 := h.lt i hi
  have hh0 := h.lt k hk
  have fl : P.getD low.toNat 0 = low := by rw [← hl]; exact h.fix i hi
  have fh : P.getD high.toNat 0 = high := by rw [← hh]; exact h.fix k hk
  rw [hl] at hl0
  rw [hh] at hh0
  refine ⟨⟨by unfold Uf.merge; rw [List.length_map]; exact h.len, fun j hj => ?_, fun j hj => ?_⟩, ?_⟩
  · rw [at_ j hj]
    split
    · exact hl0
    · exact h.lt j hj
  · rw [at_ j hj]
    split
    · rw [at_ _ (by omega), fl, if_neg hne]
    · rename_i e
      have := h.lt j hj
      rw [at_ _ (by omega), h.fix j hj, if_neg e]
  · unfold fixes
    refine countP_one _ _ high.toNat ?_ ?_ (List.range n) List.nodup_range (List.mem_range.2 (by omega)) (fun j hj hne' => ?_)
    · rw [fh]; exact decide_eq_true (by omega)
    · rw [at_ _ (by omega), fh, if_pos rfl]; exact decide_eq_false (by omega)
    · have hj := List.mem_range.1 hj
      rw [at_ j hj]
      split
      · rename_i e
        rw [e]
        have : ¬ low = (j : Int) := fun e' => by
          have : low.toNat = j := by omega
          rw [this] at fl
          exact hne (fl.symm.trans e)
        rw [decide_eq_false this, decide_eq_false (by omega)]
      · rfl
theorem cls {A : Type} [DecidableEq A] {p1 p2 pi pk : Int} {s1 s2 a b : A} (hab : a ≠ b) (h : p1 = p2 ↔ s1 = s2) (h1i : p1 = pi ↔ s1 = a) (h1k : p1 = pk ↔ s1 = b) (h2i : p2 = pi ↔ s2 = a) (h2k : p2 = pk ↔ s2 = b) :
    ((if p1 = pk then pi else p1) = (if p2 = pk then pi else p2)) ↔ ((if s1 = a then b else s1) = (if s2 = a then b else s2)) := by
  by_cases c1 : s1 = a
  · have d1 : s1 ≠ b := fun e => hab (c1.symm.trans e)
    have e1 := h1i.2 c1
    have e1' : p1 ≠ pk := fun e => d1 (h1k.1 e)
    by_cases c3 : s2 = a
    · have e2 := h2i.2 c3
      rw [e1, e2, c1, c3]
      simp
    · by_cases c4 : s2 = b
      · have e2 := h2k.2 c4
        rw [if_neg e1', if_pos e2, if_pos c1, if_neg c3, e1, c4]
        simp
      · have n1 : p2 ≠ pi := fun e => c3 (h2i.1 e)
        have n2 : p2 ≠ pk := fun e => c4 (h2k.1 e)
        rw [if_neg e1', if_neg n2, if_pos c1, if_neg c3, e1]
        exact ⟨fun e => absurd e.symm n1, fun e => absurd e.symm c4⟩
  · have e1 : p1 ≠ pi := fun e => c1 (h1i.1 e)
    by_cases c2 : s1 = b
    · have f1 := h1k.2 c2
      by_cases c3 : s2 = a
      · have e2 := h2i.2 c3
        have n2 : p2 ≠ pk := fun e => hab (c3.symm.trans (h2k.1 e))
        rw [if_pos f1, if_neg n2, if_neg c1, if_pos c3, e2, c2]
        simp
      · by_cases c4 : s2 = b
        · have f2 := h2k.2 c4
          rw [if_pos f1, if_pos f2, if_neg c1, if_neg c3, c2, c4]
          simp
        · have n1 : p2 ≠ pi := fun e => c3 (h2i.1 e)
          have n2 : p2 ≠ pk := fun e => c4 (h2k.1 e)
          rw [if_pos f1, if_neg n2, if_neg c1, if_neg c3, c2]
          exact ⟨fun e => absurd e.symm n1, fun e => absurd e.symm c4⟩
    · have f1 : p1 ≠ pk := fun e => c2 (h1k.1 e)
      by_cases c3 : s2 = a
      · have e2 := h2i.2 c3
        have n2 : p2 ≠ pk := fun e => hab (c3.symm.trans (h2k.1 e))
        rw [if_neg f1, if_neg n2, if_neg c1, if_pos c3, e2]
        exact ⟨fun e => absurd e e1, fun e => absurd e c2⟩
      · by_cases c4 : s2 = b
        · have f2 := h2k.2 c4
          rw [if_neg f1, if_pos f2, if_neg c1, if_neg c3, c4]
          exact ⟨fun e => absurd e e1, fun e => absurd e c2⟩
        · have n2 : p2 ≠ pk := fun e => c4 (h2k.1 e)
          rw [if_neg f1, if_neg n2, if_neg c1, if_neg c3]
          exact h
theorem flip_ {A : Type} [DecidableEq A] {s1 s2 a b : A} (hab : a ≠ b) : ((if s1 = b then a else s1) = (if s2 = b then a else s2)) ↔ ((if s1 = a then b else s1) = (if s2 = a then b else s2)) := by
  by_cases c1 : s1 = a <;> by_cases c2 : s1 = b <;> by_cases c3 : s2 = a <;> by_cases c4 : s2 = b <;> simp_all <;> (first | exact ⟨fun e => absurd e.symm (by assumption), fun e => absurd e.symm (by assumption)⟩ | (constructor <;> intro e <;> simp_all))
/-- the forest and the labels tell the same parts -/
structure Jn {α : Type} (d : Nat) (N : List α) (U : α → α) (P : List Int) (parts : Nat) : Prop where
  rt : ∀ x ∈ N, ∃ (n : Nat) (r : α), n ≤ d ∧ Rt U n x r ∧ r ∈ N
  lab : Lab N.length P
  same : ∀ (i j : Nat) (x y r s : α) (n m : Nat), N[i]? = some x → N[j]? = some y → Rt U n x r → Rt U m y s → (P.getD i 0 = P.getD j 0 ↔ r = s)
  cnt : parts = fixes N.length P
theorem Jn.turn {α : Type} [DecidableEq α] {d : Nat} {N : List α} {U U' : α → α} {P : List Int} {parts : Nat} (h : Jn d N U P parts) (hs : Same U U') : Jn d N U' P parts where
  rt x hx := by
    obtain ⟨n, r, h1, h2, h3⟩ := h.rt x hx
    obtain ⟨n', g1, g2⟩ := hs n x r h2
    exact ⟨n', r, by omega, g2, h3⟩
  lab := h.lab
  same i j x y r s n m hi hj hr hs' := by
    obtain ⟨n1, r1, _, k1, _⟩ := h.rt x (List.mem_of_getElem? hi)
    obtain ⟨n2, r2, _, k2, _⟩ := h.rt y (List.mem_of_getElem? hj)
    obtain ⟨_, _, g1⟩ := hs n1 x r1 k1
    obtain ⟨_, _, g2⟩ := hs n2 y r2 k2
    rw [(hr.uniq g1).1, (hs'.uniq g2).1]
    exact h.same i j x y r1 r2 n1 n2 hi hj k1 k2
  cnt := h.cnt
theorem Jn.join {α : Type} [DecidableEq α] {d : Nat} {N : List α} {U : α → α} {P : List Int} {parts i k : Nat} {x y a b : α} {n m : Nat} (h : Jn d N U P parts) (hi : N[i]? = some x) (hk : N[k]? = some y) (ha : Rt U n x a) (hb : Rt U m y b) (hab : a ≠ b) {low high : Int}
    (hlh : (P.getD i 0 = low ∧ P.getD k 0 = high) ∨ (P.getD k 0 = low ∧ P.getD i 0 = high)) : 1 ≤ parts ∧ Jn (d + 1) N (upd U a b) (merge low high P) (parts - 1) := by
  have hil := (List.getElem?_eq_some_iff.1 hi).1
  have hkl := (List.getElem?_eq_some_iff.1 hk).1
  have hne : P.getD i 0 ≠ P.getD k 0 := fun e => hab ((h.same i k x y a b n m hi hk ha hb).1 e)
  have hL : Lab N.length (merge low high P) ∧ fixes N.length P = fixes N.length (merge low high P) + 1 := by
    rcases hlh with ⟨h1, h2⟩ | ⟨h1, h2⟩
    · exact h.lab.merge hil hkl h1 h2 (fun e => hne (by rw [h1, h2, e]))
    · exact h.lab.merge hkl hil h1 h2 (fun e => hne (by rw [h1, h2, e]))
  have hm : ∀ {z : α}, z ∈ N → ∃ (n : Nat) (s : α), n ≤ d ∧ Rt U n z s ∧ s ∈ N := fun hz => h.rt _ hz
  have hbN : b ∈ N := by
    obtain ⟨_, r, _, g, hr⟩ := hm (List.mem_of_getElem? hk)
    rw [(hb.uniq g).1]
    exact hr
  have hat : ∀ (j : Nat) (z s : α) (q : Nat), N[j]? = some z → Rt U q z s → (P.getD j 0 = P.getD i 0 ↔ s = a) ∧ (P.getD j 0 = P.getD k 0 ↔ s = b) := fun j z s q hj hs => ⟨h.same j i z x s a q n hj hi hs ha, h.same j k z y s b q m hj hk hs hb⟩
  refine ⟨by rw [h.cnt, hL.2]; omega, ⟨fun z hz => ?_, hL.1, ?_, by rw [h.cnt, hL.2]; omega⟩⟩
  · obtain ⟨q, s, g1, g2, g3⟩ := hm hz
    obtain ⟨q', k1, k2⟩ := hang ha.fix hb.fix hab g2
    exact ⟨q', _, by omega, k2, by split <;> assumption⟩
  · intro j1 j2 z1 z2 r1 r2 q1 q2 hj1 hj2 hr1 hr2
    obtain ⟨p1, s1, _, g1, _⟩ := hm (List.mem_of_getElem? hj1)
    obtain ⟨p2, s2, _, g2, _⟩ := hm (List.mem_of_getElem? hj2)
    obtain ⟨_, _, k1⟩ := hang ha.fix hb.fix hab g1
    obtain ⟨_, _, k2⟩ := hang ha.fix hb.fix hab g2
    rw [(hr1.uniq k1).1, (hr2.uniq k2).1]
    have l1 := (List.getElem?_eq_some_iff.1 hj1).1
    have l2 := (List.getElem?_eq_some_iff.1 hj2).1
    rw [merge_at (by rw [h.lab.len]; exact l1), merge_at (by rw [h.lab.len]; exact l2)]
    obtain ⟨a1, b1⟩ := hat j1 z1 s1 p1 hj1 g1
    obtain ⟨a2, b2⟩ := hat j2 z2 s2 p2 hj2 g2
    have hss := h.same j1 j2 z1 z2 s1 s2 p1 p2 hj1 hj2 g1 g2
    rcases hlh with ⟨h1, h2⟩ | ⟨h1, h2⟩
    · rw [h1] at a1 a2
      rw [h2] at b1 b2
      exact cls hab hss a1 b1 a2 b2
    · rw [h2] at a1 a2
      rw [h1] at b1 b2
      rw [cls (fun e => hab e.symm) hss b1 a1 b2 a2]
      exact flip_ hab
/-- what the forest's side does with pairs of texts -/
def goU {α : Type} [DecidableEq α] (f : Nat) : List (α × α) → (α → α) → Nat → Option ((α → α) × Nat)
  | [], U, p => some (U, p)
  | (x, y) :: r, U, p => (rootU f U x).bind fun q => (rootU f q.2 y).bind fun q' => if q.1 = q'.1 then goU f r q'.2 p else if 1 ≤ p then goU f r (upd q'.2 q.1 q'.1) (p - 1) else none
/-- what the labels' side does with pairs of places -/
def goP : List (Nat × Nat) → List Int → List Int
  | [], P => P
  | (i, k) :: r, P => goP r (merge (min (P.getD i 0) (P.getD k 0)) (max (P.getD i 0) (P.getD k 0)) P)
theorem go_both {α : Type} [DecidableEq α] (f : Nat) (N : List α) : ∀ (es : List ((Nat × α) × (Nat × α))) (d : Nat) (U : α → α) (P : List Int) (parts : Nat), (∀ e ∈ es, N[e.1.1]? = some e.1.2 ∧ N[e.2.1]? = some e.2.2) → Jn d N U P parts → d + es.length < f →
    ∃ (U' : α → α) (q : Nat), goU f (es.map fun e => (e.1.2, e.2.2)) U parts = some (U', q) ∧ Jn (d + es.length) N U' (goP (es.map fun e => (e.1.1, e.2.1)) P) q
  | [], d, U, P, parts, _, h, _ => ⟨U, parts, rfl, h⟩
  | ((i, x), (k, y)) :: r, d, U, P, parts, he, h, hf => by
    obtain ⟨hi, hk⟩ := he _ List.mem_cons_self
    have her := fun e h' => he e (List.mem_cons_of_mem _ h')
    have hlen : (((i, x), (k, y)) :: r).length = r.length + 1 := List.length_cons
    have hi : N[i]? = some x := hi
    have hk : N[k]? = some y := hk
    obtain ⟨n, a, hn, ha, haN⟩ := h.rt x (List.mem_of_getElem? hi)
    obtain ⟨U1, e1, s1, _⟩ := rootU_eq f n U x a ha (by omega)
    have h1 := h.turn s1
    obtain ⟨m, b, hm, hb, hbN⟩ := h1.rt y (List.mem_of_getElem? hk)
    obtain ⟨U2, e2, s2, _⟩ := rootU_eq f m U1 y b hb (by omega)
    have h2 := h1.turn s2
    obtain ⟨n', _, ha1⟩ := s1 n x a ha
    obtain ⟨n'', _, ha2⟩ := s2 n' x a ha1
    obtain ⟨m', _, hb2⟩ := s2 m y b hb
    simp only [List.map_cons, goU, goP]
    rw [e1, Option.bind_some, e2, Option.bind_some]
    by_cases hab : a = b
    · have hp := (h2.same i k x y a b n'' m' hi hk ha2 hb2).2 hab
      rw [if_pos hab, hp, Int.min_self, Int.max_self, merge_same]
      obtain ⟨U', q, g1, g2⟩ := go_both f N r d U2 P parts her h2 (by omega)
      refine ⟨U', q, g1, ?_⟩
      exact ⟨fun z hz => by obtain ⟨n, r', q1, q2, q3⟩ := g2.rt z hz; exact ⟨n, r', by omega, q2, q3⟩, g2.lab, g2.same, g2.cnt⟩
    · rw [if_neg hab]
      have hj := h2.join hi hk ha2 hb2 hab (low := min (P.getD i 0) (P.getD k 0)) (high := max (P.getD i 0) (P.getD k 0)) (by omega)
      obtain ⟨U', q, g1, g2⟩ := go_both f N r (d + 1) (upd U2 a b) _ (parts - 1) her hj.2 (by omega)
      rw [if_pos hj.1]
      refine ⟨U', q, g1, ?_⟩
      rw [hlen, show d + (r.length + 1) = d + 1 + r.length by omega]
      exact g2
theorem Jn.start {α : Type} [DecidableEq α] {N : List α} {U : α → α} (hN : N.Nodup) (hU : ∀ x ∈ N, U x = x) : Jn 0 N U ((List.range N.length).map fun (i : Nat) => (i : Int)) N.length := by
  have hat : ∀ i, i < N.length → ((List.range N.length).map fun (i : Nat) => (i : Int)).getD i 0 = (i : Int) := fun i hi => by
    rw [List.getD_eq_getElem?_getD, List.getElem?_map, List.getElem?_range hi]
    rfl
  refine ⟨fun x hx => ⟨0, x, Nat.le_refl _, .here (hU x hx), hx⟩, ⟨by simp, fun i hi => by rw [hat i hi]; omega, fun i hi => by rw [hat i hi, Int.toNat_natCast, hat i hi]⟩, ?_, ?_⟩
  · intro i j x y r s n m hi hj hr hs
    have hil := (List.getElem?_eq_some_iff.1 hi).1
    have hjl := (List.getElem?_eq_some_iff.1 hj).1
    have e1 := (hr.uniq (.here (hU x (List.mem_of_getElem? hi)))).1
    have e2 := (hs.uniq (.here (hU y (List.mem_of_getElem? hj)))).1
    rw [hat i hil, hat j hjl, e1, e2]
    constructor
    · intro e
      have : i = j := by omega
      subst this
      rw [hi] at hj
      exact Option.some.inj hj
    · intro e
      subst e
      rw [(List.getElem?_inj hil hN).1 (hi.trans hj.symm)]
  · unfold fixes
    rw [List.countP_eq_length.2 (fun i hi => by rw [hat i (List.mem_range.1 hi)]; exact decide_eq_true rfl), List.length_range]
theorem rootU_in {α : Type} [DecidableEq α] {N : List α} : ∀ (f : Nat) (U : α → α) (x r : α) (U' : α → α), (∀ y ∈ N, U y ∈ N) → x ∈ N → rootU f U x = some (r, U') → r ∈ N ∧ ∀ y ∈ N, U' y ∈ N
  | 0, _, _, _, _, _, _, h => by cases h
  | f + 1, U, x, r, U', hU, hx, h => by
    rw [rootU] at h
    split at h
    · cases h
      exact ⟨hU x hx, hU⟩
    · obtain ⟨q, hq, h⟩ := Option.bind_eq_some_iff.1 h
      cases h
      obtain ⟨h1, h2⟩ := rootU_in f U (U x) q.1 q.2 hU (hU x hx) hq
      exact ⟨h1, fun y hy => by
        unfold upd
        split
        · exact h1
        · exact h2 y hy⟩
theorem goU_append {α : Type} [DecidableEq α] (f : Nat) : ∀ (l l' : List (α × α)) (U : α → α) (p : Nat), goU f (l ++ l') U p = (goU f l U p).bind fun s => goU f l' s.1 s.2
  | [], l', U, p => rfl
  | (x, y) :: l, l', U, p => by
    rw [List.cons_append, goU, goU]
    cases rootU f U x with
    | none => rfl
    | some q =>
      simp only [Option.bind_some]
      cases rootU f q.2 y with
      | none => rfl
      | some q' =>
        simp only [Option.bind_some]
        split
        · exact goU_append f l l' q'.2 p
        · split
          · exact goU_append f l l' _ (p - 1)
          · rfl
theorem goP_append : ∀ (l l' : List (Nat × Nat)) (P : List Int), goP (l ++ l') P = goP l' (goP l P)
  | [], _, _ => rfl
  | (i, k) :: l, l', P => by
    rw [List.cons_append, goP, goP]
    exact goP_append l l' _
theorem merge_len (low high : Int) (P : List Int) : (merge low high P).length = P.length := by
  unfold merge
  rw [List.length_map]
theorem goP_len : ∀ (l : List (Nat × Nat)) (P : List Int), (goP l P).length = P.length
  | [], _ => rfl
  | (i, k) :: l, P => by
    rw [goP, goP_len l, merge_len]
/-! What two programs do, each told by what its calls answer. -/
def innG {α μ : Type} [DecidableEq α] (f : Nat) (mk : μ → Option α) (ok : α → Bool) (x : α) : List μ → (α → α) → Nat → Option ((α → α) × Nat)
  | [], U, p => some (U, p)
  | m :: r, U, p => (rootU f U x).bind fun q => (mk m).bind fun y => if ok y = true then (rootU f q.2 y).bind fun q' => if q.1 = q'.1 then innG f mk ok x r q'.2 p else if 1 ≤ p then innG f mk ok x r (upd q'.2 q.1 q'.1) (p - 1) else none else none
def outG {α μ : Type} [DecidableEq α] (f : Nat) (M : α → Option (List μ)) (mk : α → μ → Option α) (ok : α → Bool) : List α → (α → α) → Nat → Option ((α → α) × Nat)
  | [], U, p => some (U, p)
  | x :: r, U, p => (M x).bind fun ms => if ms.length ≤ 1000000 then (innG f (mk x) ok x ms U p).bind fun s => outG f M mk ok r s.1 s.2 else none
def innP {μ : Type} (rk : μ → Option Int) (i : Nat) : List μ → List Int → Option (List Int)
  | [], P => some P
  | m :: r, P => (rk m).bind fun q => if 0 ≤ q ∧ q < (P.length : Int) then innP rk i r (merge (min (P.getD i 0) (P.getD q.toNat 0)) (max (P.getD i 0) (P.getD q.toNat 0)) P) else none
def outP {α μ : Type} (M : α → Option (List μ)) (rk : α → μ → Option Int) : Nat → List α → List Int → Option (List Int)
  | _, [], P => some P
  | i, x :: r, P => (M x).bind fun ms => if ms.length ≤ 1000000 then (innP (rk x) i ms P).bind fun P' => outP M rk (i + 1) r P' else none
theorem innG_eq {α μ : Type} [DecidableEq α] (f : Nat) (mk : μ → Option α) (ok : α → Bool) (g : μ → α) (x : α) : ∀ (ms : List μ) (U : α → α) (p : Nat), (∀ m ∈ ms, mk m = some (g m) ∧ ok (g m) = true) → innG f mk ok x ms U p = goU f (ms.map fun m => (x, g m)) U p
  | [], _, _, _ => rfl
  | m :: r, U, p, h => by
    obtain ⟨h1, h2⟩ := h m List.mem_cons_self
    have hr := fun m' hm => h m' (List.mem_cons_of_mem _ hm)
    rw [innG, List.map_cons, goU]
    cases rootU f U x with
    | none => rfl
    | some q =>
      rw [Option.bind_some, Option.bind_some, h1, Option.bind_some, if_pos h2]
      cases rootU f q.2 (g m) with
      | none => rfl
      | some q' =>
        rw [Option.bind_some, Option.bind_some, innG_eq f mk ok g x r _ _ hr, innG_eq f mk ok g x r _ _ hr]
theorem outG_eq {α μ : Type} [DecidableEq α] (f : Nat) (M : α → Option (List μ)) (mk : α → μ → Option α) (ok : α → Bool) (ms : α → List μ) (g : α → μ → α) : ∀ (xs : List α) (U : α → α) (p : Nat), (∀ x ∈ xs, M x = some (ms x) ∧ (ms x).length ≤ 1000000 ∧ ∀ m ∈ ms x, mk x m = some (g x m) ∧ ok (g x m) = true) →
    outG f M mk ok xs U p = goU f (xs.flatMap fun x => (ms x).map fun m => (x, g x m)) U p
  | [], _, _, _ => rfl
  | x :: r, U, p, h => by
    obtain ⟨h1, h2, h3⟩ := h x List.mem_cons_self
    rw [outG, h1, Option.bind_some, if_pos h2, innG_eq f (mk x) ok (g x) x (ms x) U p h3, List.flatMap_cons, goU_append]
    cases goU f ((ms x).map fun m => (x, g x m)) U p with
    | none => rfl
    | some s =>
      rw [Option.bind_some, Option.bind_some]
      exact outG_eq f M mk ok ms g r s.1 s.2 (fun y hy => h y (List.mem_cons_of_mem _ hy))
theorem innP_eq {μ : Type} (rk : μ → Option Int) (ix : μ → Nat) (i : Nat) : ∀ (ms : List μ) (P : List Int), (∀ m ∈ ms, rk m = some ((ix m : Nat) : Int) ∧ ix m < P.length) → innP rk i ms P = some (goP (ms.map fun m => (i, ix m)) P)
  | [], _, _ => rfl
  | m :: r, P, h => by
    obtain ⟨h1, h2⟩ := h m List.mem_cons_self
    rw [innP, h1, Option.bind_some, if_pos ⟨by omega, by omega⟩, List.map_cons, goP, Int.toNat_natCast]
    exact innP_eq rk ix i r _ (fun m' hm => ⟨(h m' (List.mem_cons_of_mem _ hm)).1, by rw [merge_len]; exact (h m' (List.mem_cons_of_mem _ hm)).2⟩)
/-- all pairs: place and text of both ends -/
def prs {α μ : Type} (ms : α → List μ) (g : α → μ → α) (ix : α → μ → Nat) : Nat → List α → List ((Nat × α) × (Nat × α))
  | _, [] => []
  | i, x :: r => ((ms x).map fun m => ((i, x), (ix x m, g x m))) ++ prs ms g ix (i + 1) r
theorem prs_texts {α μ : Type} (ms : α → List μ) (g : α → μ → α) (ix : α → μ → Nat) : ∀ (i : Nat) (xs : List α), (prs ms g ix i xs).map (fun e => (e.1.2, e.2.2)) = xs.flatMap fun x => (ms x).map fun m => (x, g x m)
  | _, [] => rfl
  | i, x :: r => by
    rw [prs, List.map_append, prs_texts ms g ix (i + 1) r, List.map_map, List.flatMap_cons]
    rfl
theorem outP_eq {α μ : Type} (M : α → Option (List μ)) (rk : α → μ → Option Int) (ms : α → List μ) (g : α → μ → α) (ix : α → μ → Nat) : ∀ (xs : List α) (i : Nat) (P : List Int), (∀ x ∈ xs, M x = some (ms x) ∧ (ms x).length ≤ 1000000 ∧ ∀ m ∈ ms x, rk x m = some ((ix x m : Nat) : Int) ∧ ix x m < P.length) →
    outP M rk i xs P = some (goP ((prs ms g ix i xs).map fun e => (e.1.1, e.2.1)) P)
  | [], _, _, _ => rfl
  | x :: r, i, P, h => by
    obtain ⟨h1, h2, h3⟩ := h x List.mem_cons_self
    rw [outP, h1, Option.bind_some, if_pos h2, innP_eq (rk x) (ix x) i (ms x) P h3, Option.bind_some, outP_eq M rk ms g ix r (i + 1) _ (fun y hy => by
      obtain ⟨k1, k2, k3⟩ := h y (List.mem_cons_of_mem _ hy)
      exact ⟨k1, k2, fun m hm => ⟨(k3 m hm).1, by rw [goP_len]; exact (k3 m hm).2⟩⟩), prs, List.map_append, goP_append, List.map_map]
    rfl
theorem prs_in {α μ : Type} {N : List α} (ms : α → List μ) (g : α → μ → α) (ix : α → μ → Nat) (hN : ∀ x ∈ N, ∀ m ∈ ms x, N[ix x m]? = some (g x m)) : ∀ (xs : List α) (i : Nat), (∀ (j : Nat) (x : α), xs[j]? = some x → N[i + j]? = some x) → ∀ e ∈ prs ms g ix i xs, N[e.1.1]? = some e.1.2 ∧ N[e.2.1]? = some e.2.2
  | [], _, _, e, he => by cases he
  | x :: r, i, h, e, he => by
    have hx : N[i]? = some x := h 0 x rfl
    rw [prs, List.mem_append] at he
    rcases he with he | he
    · obtain ⟨m, hm, rfl⟩ := List.mem_map.1 he
      exact ⟨hx, hN x (List.mem_of_getElem? hx) m hm⟩
    · exact prs_in ms g ix hN r (i + 1) (fun j y hy => by rw [show i + 1 + j = i + (j + 1) by omega]; exact h (j + 1) y (by simpa using hy)) e he
theorem prs_len {α μ : Type} (ms : α → List μ) (g : α → μ → α) (ix : α → μ → Nat) (c : Nat) : ∀ (xs : List α) (i : Nat), (∀ x ∈ xs, (ms x).length ≤ c) → (prs ms g ix i xs).length ≤ xs.length * c
  | [], _, _ => Nat.zero_le _
  | x :: r, i, h => by
    have h1 := h x List.mem_cons_self
    have h2 := prs_len ms g ix c r (i + 1) (fun y hy => h y (List.mem_cons_of_mem _ hy))
    rw [prs, List.length_append, List.length_map, List.length_cons, Nat.add_mul, Nat.one_mul]
    omega
/-- both count the same parts -/
theorem parts_both {α μ : Type} [DecidableEq α] (f : Nat) {N : List α} (hN : N.Nodup) (M1 M2 : α → Option (List μ)) (mk : α → μ → Option α) (ok : α → Bool) (rk : α → μ → Option Int) (ms : α → List μ) (g : α → μ → α) (ix : α → μ → Nat) (c : Nat) (hf : N.length * c < f)
    (h : ∀ x ∈ N, M1 x = some (ms x) ∧ M2 x = some (ms x) ∧ (ms x).length ≤ c ∧ (ms x).length ≤ 1000000 ∧ ∀ m ∈ ms x, mk x m = some (g x m) ∧ ok (g x m) = true ∧ rk x m = some ((ix x m : Nat) : Int) ∧ N[ix x m]? = some (g x m)) :
    ∃ (U : α → α) (q : Nat) (P : List Int), outG f M1 mk ok N (fun x => x) N.length = some (U, q) ∧ outP M2 rk 0 N ((List.range N.length).map fun (i : Nat) => (i : Int)) = some P ∧ P.length = N.length ∧ q = fixes N.length P := by
  have hp := prs_len ms g ix c N 0 (fun x hx => (h x hx).2.2.1)
  obtain ⟨U, q, e1, e2⟩ := go_both f N (prs ms g ix 0 N) 0 (fun x => x) _ N.length (prs_in ms g ix (fun x hx m hm => ((h x hx).2.2.2.2 m hm).2.2.2) N 0 (fun j x hj => by rw [Nat.zero_add]; exact hj)) (Jn.start hN (fun _ _ => rfl)) (by omega)
  rw [prs_texts] at e1
  refine ⟨U, q, _, ?_, outP_eq M2 rk ms g ix N 0 _ (fun x hx => ⟨(h x hx).2.1, (h x hx).2.2.2.1, fun m hm => ⟨((h x hx).2.2.2.2 m hm).2.2.1, ?_⟩⟩), ?_, e2.cnt⟩
  · rw [outG_eq f M1 mk ok ms g N _ _ (fun x hx => ⟨(h x hx).1, (h x hx).2.2.2.1, fun m hm => ⟨((h x hx).2.2.2.2 m hm).1, ((h x hx).2.2.2.2 m hm).2.1⟩⟩)]
    exact e1
  · rw [List.length_map, List.length_range]
    exact (List.getElem?_eq_some_iff.1 ((h x hx).2.2.2.2 m hm).2.2.2).1
  · rw [goP_len, List.length_map, List.length_range]
/-! Loops over labels, place by place. -/
/-- a merge that has come to a place -/
def mergeTo (low high : Int) (j : Nat) (P : List Int) : List Int := merge low high (P.take j) ++ P.drop j
/-- the first numbers -/
def iota (n : Nat) : List Int := (List.range n).map fun (i : Nat) => (i : Int)
theorem iota_step (n i : Nat) (h : i < n) : (iota i ++ List.replicate (n - i) 0).set i (i : Int) = iota (i + 1) ++ List.replicate (n - (i + 1)) 0 := by
  have e : List.replicate (n - i) (0 : Int) = 0 :: List.replicate (n - (i + 1)) 0 := by
    rw [← List.replicate_succ]
    congr 1
    omega
  unfold iota
  rw [List.set_append_right _ _ (by simp), e, List.length_map, List.length_range, Nat.sub_self, List.set_cons_zero, List.range_succ, List.map_append, List.append_assoc]
  rfl
theorem mergeTo_at (low high : Int) {j : Nat} {P : List Int} (h : j < P.length) : (mergeTo low high j P).getD j 0 = P.getD j 0 := by
  unfold mergeTo merge
  rw [List.getD_eq_getElem?_getD, List.getElem?_append_right (by simp; omega), List.length_map, List.length_take, Nat.min_eq_left (by omega), Nat.sub_self, List.getElem?_drop, Nat.add_zero, List.getD_eq_getElem?_getD]
theorem mergeTo_len (low high : Int) (j : Nat) (P : List Int) : (mergeTo low high j P).length = P.length := by
  unfold mergeTo merge
  rw [List.length_append, List.length_map, List.length_take, List.length_drop]
  omega
theorem mergeTo_yes (low high : Int) {j : Nat} {P : List Int} (h : j < P.length) (he : P.getD j 0 = high) : (mergeTo low high j P).set j low = mergeTo low high (j + 1) P := by
  unfold mergeTo merge
  have hj : P[j] = high := by rw [List.getD_eq_getElem?_getD, List.getElem?_eq_getElem h] at he; exact he
  rw [List.set_append_right _ _ (by simp; omega), List.length_map, List.length_take, Nat.min_eq_left (by omega), Nat.sub_self, List.drop_eq_getElem_cons h, List.set_cons_zero, List.take_add_one, List.getElem?_eq_getElem h, List.map_append, List.append_assoc]
  simp [hj]
theorem mergeTo_no (low high : Int) {j : Nat} {P : List Int} (h : j < P.length) (he : P.getD j 0 ≠ high) : mergeTo low high j P = mergeTo low high (j + 1) P := by
  unfold mergeTo merge
  have hj : P[j] ≠ high := by rw [List.getD_eq_getElem?_getD, List.getElem?_eq_getElem h] at he; exact he
  rw [List.drop_eq_getElem_cons h, List.take_add_one, List.getElem?_eq_getElem h, List.map_append, List.append_assoc]
  simp [hj]
theorem mergeTo_zero (low high : Int) (P : List Int) : mergeTo low high 0 P = P := rfl
theorem mergeTo_all (low high : Int) (P : List Int) : mergeTo low high P.length P = merge low high P := by
  unfold mergeTo
  rw [List.take_length, List.drop_length, List.append_nil]
/-- how many of the first places are their own labels -/
def fixTo (P : List Int) (j : Nat) : Nat := (List.range j).countP fun i => decide (P.getD i 0 = (i : Int))
theorem fixTo_yes {P : List Int} {j : Nat} (h : P.getD j 0 = (j : Int)) : fixTo P (j + 1) = fixTo P j + 1 := by
  unfold fixTo
  rw [List.range_succ, List.countP_append, List.countP_singleton, decide_eq_true h]
  rfl
theorem fixTo_no {P : List Int} {j : Nat} (h : P.getD j 0 ≠ (j : Int)) : fixTo P (j + 1) = fixTo P j := by
  unfold fixTo
  rw [List.range_succ, List.countP_append, List.countP_singleton, decide_eq_false h]
  rfl
theorem fixTo_le (P : List Int) (j : Nat) : fixTo P j ≤ j := by
  unfold fixTo
  have := List.countP_le_length (p := fun i => decide (P.getD i 0 = ((i : Nat) : Int))) (l := List.range j)
  rw [List.length_range] at this
  exact this
end Go.Proofs.Ytpelhinjoambfaa.Uf
