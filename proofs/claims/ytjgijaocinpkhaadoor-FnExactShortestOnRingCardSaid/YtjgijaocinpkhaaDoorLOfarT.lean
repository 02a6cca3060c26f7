/- How far each place of a graph is from one of its places: what the rounds of the reference compute, for all finite graphs whose rows of places are told by neighbours. -/
import Derived.Test.YtjgijaocinpkhaaDoorBfs
import Derived.Test.YtjgijaocinpkhaaDoorSrts
import Derived.Test.YtjgijaocinpkhaaDoorXO0
import Derived.Test.YtjgijaocinpkhaaDoorXO1
import Derived.Test.YtjgijaocinpkhaaDoorXO4
namespace Go.Proofs.YtjgijaocinpkhaaDoor.XO
set_option linter.unusedVariables false
set_option linter.unusedSimpArgs false
open Go Go.RowKit Go.Proofs.YtjgijaocinpkhaaDoorW.PrintWords Go.Proofs.YtjgijaocinpkhaaDoor.Pm Go.Proofs.YtjgijaocinpkhaaDoor.Srts

theorem posS_at {y : ByteArray} {R : List ByteArray} (h : y ∈ R) : posS y R < R.length ∧ R[posS y R]? = some y := by
  have hl : posS y R < R.length := List.findIdx_lt_length_of_exists ⟨y, h, by simp⟩
  have hp := List.findIdx_getElem (p := fun r : ByteArray => r.toList == y.toList) (w := hl)
  refine ⟨hl, ?_⟩
  rw [List.getElem?_eq_getElem hl]
  have : (R[posS y R]).toList = y.toList := eq_of_beq hp
  exact congrArg some (tl_inj this)
theorem posS_no {y : ByteArray} {R : List ByteArray} (h : y ∉ R) : posS y R = R.length := by
  rcases Nat.lt_or_ge (posS y R) R.length with h1 | h1
  · have hp := List.findIdx_getElem (p := fun r : ByteArray => r.toList == y.toList) (w := h1)
    have h2 : (R[posS y R]).toList = y.toList := eq_of_beq hp
    exact absurd (tl_inj h2 ▸ List.getElem_mem h1 : y ∈ R) h
  · exact Nat.le_antisymm (pos_le y R) h1
theorem posS_append {y : ByteArray} {R S : List ByteArray} (h : y ∈ R) : posS y (R ++ S) = posS y R := by
  have h2 : List.findIdx (fun r : ByteArray => r.toList == y.toList) R < R.length := (posS_at h).1
  unfold posS
  rw [List.findIdx_append, if_pos h2]
theorem posS_get {R : List ByteArray} (hn : R.Nodup) {k : Nat} {x : ByteArray} (hx : R[k]? = some x) : posS x R = k := by
  have h := posS_at (List.mem_of_getElem? hx)
  exact (List.getElem?_inj h.1 hn).1 (by rw [h.2, hx])

section
variable (nb : ByteArray → List (S83 × ByteArray)) (R : List ByteArray) (tv : ByteArray)
def plc (x : ByteArray) : List Int := (nb x).map fun p => ((posS p.2 R : Nat) : Int)
def isDist (m : Nat) (x : ByteArray) : Prop := Bfs.Walk nb m x tv ∧ ∀ m', m' < m → ¬ Bfs.Walk nb m' x tv
def St (d : Nat) (fa : List Int) (k : Nat) : Prop := ∀ x, R[k]? = some x → (rdOf 0 fa (k : Int) = -1 ∧ ∀ m, m < d → ¬ Bfs.Walk nb m x tv) ∨ ∃ m : Nat, m < d ∧ rdOf 0 fa (k : Int) = (m : Int) ∧ isDist nb tv m x
end
section
variable {nb : ByteArray → List (S83 × ByteArray)} {R : List ByteArray} {tv : ByteArray}
theorem isDist_uniq {m n : Nat} {x : ByteArray} (h : isDist nb tv m x) (h' : isDist nb tv n x) : m = n := by
  rcases Nat.lt_trichotomy m n with g | g | g
  · exact absurd h.1 (h'.2 m g)
  · exact g
  · exact absurd h'.1 (h.2 n g)
theorem isDist_min {n : Nat} {x : ByteArray} (h : Bfs.Walk nb n x tv) : ∃ m, m ≤ n ∧ isDist nb tv m x := by
  induction n using Nat.strongRecOn with
  | _ n ih =>
    by_cases hm : ∃ m', m' < n ∧ Bfs.Walk nb m' x tv
    · obtain ⟨m', h1, h2⟩ := hm
      obtain ⟨m, h3, h4⟩ := ih m' h1 h2
      exact ⟨m, by omega, h4⟩
    · exact ⟨n, Nat.le_refl _, h, fun m' h1 h2 => hm ⟨m', h1, h2⟩⟩
theorem isDist_step {m : Nat} {x : ByteArray} (h : isDist nb tv (m + 1) x) : ∃ p ∈ nb x, isDist nb tv m p.2 := by
  obtain ⟨h1, h2⟩ := h
  obtain ⟨mv', y, hm, hw⟩ := h1.succ_inv
  exact ⟨(mv', y), hm, hw, fun m' hm' hw' => h2 (m' + 1) (by omega) (.cons hm hw')⟩
theorem St.val {d k e : Nat} {fa : List Int} {x : ByteArray} (h : St nb R tv d fa k) (hx : R[k]? = some x) (he : e < d) : rdOf 0 fa (k : Int) = (e : Int) ↔ isDist nb tv e x := by
  rcases h x hx with ⟨h1, h2⟩ | ⟨m, hm, h1, h2⟩
  · rw [h1]
    exact ⟨fun h' => by omega, fun h' => absurd h'.1 (h2 e he)⟩
  · rw [h1]
    exact ⟨fun h' => by
      obtain rfl : m = e := by omega
      exact h2, fun h' => by rw [isDist_uniq h2 h']⟩
theorem rdOf_set {l : List Int} {i : Nat} {v : Int} (hi : i < l.length) (j : Nat) : rdOf 0 (l.set i v) (j : Int) = if i = j then v else rdOf 0 l (j : Int) := by
  unfold rdOf
  rw [Int.toNat_natCast, List.getD_eq_getElem?_getD, List.getD_eq_getElem?_getD, List.getElem?_set]
  by_cases h : i = j
  · rw [if_pos h, if_pos h, if_pos hi]
    rfl
  · rw [if_neg h, if_neg h]
/-- a closed graph -/
structure Closed (nb : ByteArray → List (S83 × ByteArray)) (R : List ByteArray) : Prop where
  nd : R.Nodup
  cl : ∀ x ∈ R, ∀ p ∈ nb x, p.2 ∈ R
theorem hitT_iff (hC : Closed nb R) {fa : List Int} {d i : Nat} {x : ByteArray} (hx : R[i]? = some x) (hv : ∀ k, k < R.length → ∀ (y : ByteArray), R[k]? = some y → (rdOf 0 fa (k : Int) = (d : Int) ↔ isDist nb tv d y)) :
    hitT fa (d : Int) (plc nb R x) = true ↔ ∃ p ∈ nb x, isDist nb tv d p.2 := by
  unfold hitT plc
  rw [List.any_map, List.any_eq_true]
  constructor
  · rintro ⟨p, hp, h⟩
    have hy := posS_at (hC.cl x (List.mem_of_getElem? hx) p hp)
    exact ⟨p, hp, (hv _ hy.1 _ hy.2).1 (by simpa using h)⟩
  · rintro ⟨p, hp, h⟩
    have hy := posS_at (hC.cl x (List.mem_of_getElem? hx) p hp)
    exact ⟨p, hp, by simpa using (hv _ hy.1 _ hy.2).2 h⟩
def negs (fa : List Int) : Nat := fa.countP fun x => decide (x < 0)
theorem roundT_st (hC : Closed nb R) (d : Nat) : ∀ (rest : List ByteArray) (i : Nat) (fa : List Int) (b : Bool) (r : List Int × Bool), roundT (d + 1) i (rest.map (plc nb R)) fa b = r → R.drop i = rest → i + rest.length = R.length → fa.length = R.length →
    (∀ k, k < i → St nb R tv (d + 2) fa k) → (∀ k, i ≤ k → St nb R tv (d + 1) fa k) → (b = false → ∀ (k : Nat) (x : ByteArray), k < i → R[k]? = some x → ¬ isDist nb tv (d + 1) x) →
    (∀ k, k < R.length → St nb R tv (d + 2) r.1 k) ∧ (r.2 = false → ∀ (k : Nat) (x : ByteArray), R[k]? = some x → ¬ isDist nb tv (d + 1) x) ∧ r.1.length = R.length ∧ negs r.1 + (if r.2 = true then 1 else 0) ≤ negs fa + (if b = true then 1 else 0)
  | [], i, fa, b, r, h, hd, hi, hl, h1, h2, h3 => by
    rw [List.map_nil, roundT] at h
    subst h
    rw [List.length_nil] at hi
    exact ⟨fun k hk => h1 k (by omega), fun hb k x hx => h3 hb k x (by have := (List.getElem?_eq_some_iff.1 hx).1; omega) hx, hl, Nat.le_refl _⟩
  | x :: rest, i, fa, b, r, h, hd, hi, hl, h1, h2, h3 => by
    rw [List.length_cons] at hi
    have hx : R[i]? = some x := by
      have : (R.drop i)[0]? = some x := by rw [hd]; rfl
      rw [List.getElem?_drop] at this
      simpa using this
    have hd' : R.drop (i + 1) = rest := by
      have : (R.drop i).drop 1 = rest := by rw [hd]; rfl
      rwa [List.drop_drop] at this
    have hv : ∀ k, k < R.length → ∀ (y : ByteArray), R[k]? = some y → (rdOf 0 fa (k : Int) = (d : Int) ↔ isDist nb tv d y) := fun k hk y hy => by
      rcases Nat.lt_or_ge k i with g | g
      · exact (h1 k g).val hy (by omega)
      · exact (h2 k g).val hy (by omega)
    rw [List.map_cons, roundT] at h
    by_cases hf : 0 ≤ rdOf 0 fa (i : Int)
    · rw [if_pos hf] at h
      refine roundT_st hC d rest (i + 1) fa b r h hd' (by omega) hl (fun k hk => ?_) (fun k hk => h2 k (by omega)) (fun hb k y hk hy => ?_)
      · rcases Nat.lt_or_ge k i with g | g
        · exact h1 k g
        · obtain rfl : k = i := by omega
          intro y hy
          rcases h2 k (Nat.le_refl _) y hy with ⟨g1, _⟩ | ⟨m, g1, g2⟩
          · omega
          · exact .inr ⟨m, by omega, g2⟩
      · rcases Nat.lt_or_ge k i with g | g
        · exact h3 hb k y g hy
        · obtain rfl : k = i := by omega
          intro hD
          rcases h2 k (Nat.le_refl _) y hy with ⟨g1, _⟩ | ⟨m, g1, _, g2⟩
          · omega
          · have := isDist_uniq g2 hD
            omega
    · rw [if_neg hf] at h
      have hneg : ∀ m, m < d + 1 → ¬ Bfs.Walk nb m x tv := by
        rcases h2 i (Nat.le_refl _) x hx with ⟨_, g⟩ | ⟨m, _, g, _⟩
        · exact g
        · omega
      have hm1 : rdOf 0 fa (i : Int) = -1 := by
        rcases h2 i (Nat.le_refl _) x hx with ⟨g, _⟩ | ⟨m, _, g, _⟩
        · exact g
        · omega
      have hh := hitT_iff (tv := tv) hC hx hv
      rw [show (((d + 1 : Nat) : Int) - 1) = (d : Int) by omega] at h
      by_cases hit : hitT fa (d : Int) (plc nb R x) = true
      · rw [if_pos hit] at h
        obtain ⟨p, hp, hD⟩ := hh.1 hit
        have hDx : isDist nb tv (d + 1) x := ⟨.cons (m := p.1) (y := p.2) hp hD.1, hneg⟩
        have hil : i < fa.length := by omega
        obtain ⟨g1, g2, g3, g4⟩ := roundT_st hC d rest (i + 1) _ true r h hd' (by omega) (by rw [List.length_set]; exact hl) (fun k hk y hy => by
          rw [rdOf_set hil]
          by_cases hik : i = k
          · subst hik
            rw [hx] at hy
            cases hy
            rw [if_pos rfl]
            exact .inr ⟨d + 1, by omega, rfl, hDx⟩
          · rw [if_neg hik]
            exact h1 k (by omega) y hy) (fun k hk y hy => by
          rw [rdOf_set hil, if_neg (by omega)]
          exact h2 k (by omega) y hy) (fun hb => by cases hb)
        refine ⟨g1, g2, g3, Nat.le_trans g4 ?_⟩
        have hget : fa[i] = -1 := by
          unfold rdOf at hm1
          rw [Int.toNat_natCast, List.getD_eq_getElem?_getD, List.getElem?_eq_getElem hil] at hm1
          exact hm1
        have hpos : 0 < negs fa := by
          unfold negs
          exact List.countP_pos_iff.2 ⟨fa[i], List.getElem_mem hil, by rw [hget]; decide⟩
        have hset : negs (fa.set i ((d + 1 : Nat) : Int)) = negs fa - 1 := by
          unfold negs
          rw [List.countP_set hil, hget, if_pos (by decide), if_neg (by simp; omega)]
          omega
        rw [hset, if_pos rfl]
        split <;> omega
      · rw [if_neg hit] at h
        have hno : ¬ Bfs.Walk nb (d + 1) x tv := fun hw => by
          obtain ⟨mv', y, hm, hw'⟩ := hw.succ_inv
          exact hit (hh.2 ⟨(mv', y), hm, hw', fun m' hm' hw2 => hneg (m' + 1) (by omega) (.cons hm hw2)⟩)
        refine roundT_st hC d rest (i + 1) fa b r h hd' (by omega) hl (fun k hk => ?_) (fun k hk => h2 k (by omega)) (fun hb k y hk hy => ?_)
        · rcases Nat.lt_or_ge k i with g | g
          · exact h1 k g
          · obtain rfl : k = i := by omega
            intro y hy
            rw [hx] at hy
            cases hy
            refine .inl ⟨hm1, fun m hm hw => ?_⟩
            rcases Nat.lt_or_ge m (d + 1) with g2 | g2
            · exact hneg m g2 hw
            · obtain rfl : m = d + 1 := by omega
              exact hno hw
        · rcases Nat.lt_or_ge k i with g | g
          · exact h3 hb k y g hy
          · obtain rfl : k = i := by omega
            rw [hx] at hy
            cases hy
            exact fun hD => hno hD.1
theorem no_more (hC : Closed nb R) {d : Nat} (h : ∀ (k : Nat) (x : ByteArray), R[k]? = some x → ¬ isDist nb tv d x) : ∀ (e : Nat) (x : ByteArray), x ∈ R → ¬ isDist nb tv (d + e) x
  | 0, x, hx, hD => by
    obtain ⟨k, hk⟩ := List.mem_iff_getElem?.1 hx
    exact h k x hk hD
  | e + 1, x, hx, hD => by
    obtain ⟨p, hp, hD'⟩ := isDist_step (m := d + e) hD
    exact no_more hC h e p.2 (hC.cl x hx p hp) hD'
/-- the numbers, when the rounds are over -/
def Fars (nb : ByteArray → List (S83 × ByteArray)) (R : List ByteArray) (tv : ByteArray) (F : List Int) : Prop := F.length = R.length ∧ ∀ (k : Nat) (x : ByteArray), R[k]? = some x → (∀ m : Nat, rdOf 0 F (k : Int) = (m : Int) ↔ isDist nb tv m x) ∧ (rdOf 0 F (k : Int) = -1 ∨ 0 ≤ rdOf 0 F (k : Int))
theorem toT_st (hC : Closed nb R) : ∀ (K d : Nat) (fa : List Int), fa.length = R.length → (∀ k, k < R.length → St nb R tv (d + 1) fa k) → negs fa < K → d + K < 1000000 → ∃ F, toT (R.map (plc nb R)) K (d + 1) fa = some F ∧ Fars nb R tv F
  | 0, d, fa, hl, hs, hK, hd => by omega
  | K + 1, d, fa, hl, hs, hK, hd => by
    rw [toT, if_pos (by omega)]
    obtain ⟨r, hr⟩ : ∃ r, roundT (d + 1) 0 (R.map (plc nb R)) fa false = r := ⟨_, rfl⟩
    obtain ⟨g1, g2, g3, g4⟩ := roundT_st (tv := tv) hC d R 0 fa false r hr rfl (by omega) hl (fun k hk => by omega) (fun k _ => by
      rcases Nat.lt_or_ge k R.length with g | g
      · exact hs k g
      · intro x hx
        rw [List.getElem?_eq_none g] at hx
        cases hx) (fun _ k x hk => by omega)
    rw [hr]
    cases hb : r.2 with
    | true =>
      rw [if_pos rfl]
      rw [hb, if_pos rfl, if_neg (by decide)] at g4
      exact toT_st hC K (d + 1) r.1 g3 g1 (by omega) (by omega)
    | false =>
      rw [if_neg (by decide)]
      refine ⟨r.1, rfl, g3, fun k x hx => ?_⟩
      have hno := no_more hC (g2 hb)
      have hk := (List.getElem?_eq_some_iff.1 hx).1
      rcases g1 k hk x hx with ⟨q1, q2⟩ | ⟨m, q0, q1, q2⟩
      · refine ⟨fun m => ⟨fun h => by omega, fun h => ?_⟩, .inl q1⟩
        rcases Nat.lt_or_ge m (d + 1) with g | g
        · exact absurd h.1 (q2 m (by omega))
        · exact absurd (show isDist nb tv (d + 1 + (m - (d + 1))) x by rw [show d + 1 + (m - (d + 1)) = m by omega]; exact h) (hno _ x (List.mem_of_getElem? hx))
      · refine ⟨fun n => ⟨fun h => ?_, fun h => ?_⟩, .inr (by omega)⟩
        · obtain rfl : m = n := by omega
          exact q2
        · rw [q1, isDist_uniq q2 h]
theorem toT_far (hC : Closed nb R) {v : Nat} (hv : R[v]? = some tv) {K : Nat} (hK : R.length < K) (hK2 : K < 900000) : ∃ F, toT (R.map (plc nb R)) K 1 (far0 R.length v) = some F ∧ Fars nb R tv F := by
  have hvl := (List.getElem?_eq_some_iff.1 hv).1
  refine toT_st hC K 0 (far0 R.length v) (by simp [far0]) (fun k hk x hx => ?_) ?_ (by omega)
  · unfold far0
    rw [rdOf_set (by simpa using hvl)]
    by_cases hkv : v = k
    · subst hkv
      rw [hv] at hx
      cases hx
      rw [if_pos rfl]
      exact .inr ⟨0, by decide, rfl, .nil _, fun m' hm' => by omega⟩
    · rw [if_neg hkv]
      refine .inl ⟨?_, fun m hm hw => ?_⟩
      · unfold rdOf
        rw [Int.toNat_natCast, List.getD_eq_getElem?_getD, List.getElem?_replicate, if_pos hk]
        rfl
      · obtain rfl : m = 0 := by omega
        have := hw.zero_eq
        subst this
        exact hkv ((List.getElem?_inj hvl hC.nd).1 (by rw [hv, hx]))
  · have h := List.countP_le_length (p := fun x : Int => decide (x < 0)) (l := far0 R.length v)
    unfold negs
    have h2 : (far0 R.length v).length = R.length := by simp [far0]
    omega
end
end Go.Proofs.YtjgijaocinpkhaaDoor.XO
