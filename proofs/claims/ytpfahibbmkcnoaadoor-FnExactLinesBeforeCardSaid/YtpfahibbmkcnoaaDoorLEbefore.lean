/- The lines from which one move leads to a line, as the program and as the reference collect them: for all lines of 1 to 10 signs. -/
import Derived.Test.YtpfahibbmkcnoaaDoorLEline
import Derived.Test.YtpfahibbmkcnoaaDoorLEgoal
import Derived.Test.YtpfahibbmkcnoaaDoorLEmake
import Derived.Test.YtpfahibbmkcnoaaDoorLEreadd
import Derived.Test.YtpfahibbmkcnoaaDoorSortf
import Derived.Test.YtpfahibbmkcnoaaDoorXE1
import Derived.Test.YtpfahibbmkcnoaaDoorXE2
import Derived.Test.YtpfahibbmkcnoaaDoorXE4
import Derived.Test.YtpfahibbmkcnoaaDoorXE5
import Derived.Test.YtpfahibbmkcnoaaDoorXE6
import Derived.Test.YtpfahibbmkcnoaaDoorXE7
namespace Go.Proofs.YtpfahibbmkcnoaaDoor.XE
set_option linter.unusedVariables false
set_option linter.unusedSimpArgs false
open Go Go.RowKit Go.Proofs.YtpfahibbmkcnoaaDoorW.PrintWords Go.Proofs.YtpfahibbmkcnoaaDoorB Go.Proofs.YtpfahibbmkcnoaaDoor.Srts Go.Proofs.YtpfahibbmkcnoaaDoor.Sorts

/-- a place to which a stone is taken back, one move before -/
def stepP (x : ByteArray) (i j : Nat) (v : ByteArray) : Prop := j < x.size ∧ bt x (i : Int) ≠ 46 ∧ bt x (j : Int) = 46 ∧ canP (mv x (i : Int) (j : Int)) (j : Int) (i : Int) ∧ v = mv x (i : Int) (j : Int)
theorem reAdd_one {F : List ByteArray} (hF : F.length ≤ 1000) (hs : Srt F) (y : ByteArray) (k : Nat) (hk : 1001 < k) : ∃ r, spec_reAdd.f k F y = some r ∧ r.length ≤ F.length + 1 ∧ Srt r ∧ ∀ x, x ∈ r ↔ x = y ∨ x ∈ F := by
  rcases reAdd_eq (F := F) (by omega) hs y k (by omega) with ⟨h1, h2⟩ | ⟨_, r, h2, h3, h4, h5⟩
  · exact ⟨F, h2, by omega, hs, fun x => ⟨fun h => .inr h, fun h => by rcases h with rfl | h; exact h1; exact h⟩⟩
  · exact ⟨r, h2, by omega, h4, h5⟩
theorem sgn_three7 {a : ByteArray} (h : a.data.toList.all sgn = true) {i : Int} (h0 : 0 ≤ i) (h1 : i < (a.size : Int)) : bt a i = 84 ∨ bt a i = 70 ∨ bt a i = 46 := by
  obtain ⟨n, rfl⟩ : ∃ n : Nat, i = (n : Int) := ⟨i.toNat, by omega⟩
  obtain ⟨c, hd, hb⟩ := bt_eq a n (by omega)
  have hc : c ∈ a.data.toList := List.mem_of_mem_drop (by rw [hd]; exact List.mem_cons_self)
  have h2 := List.all_eq_true.1 h c hc
  unfold sgn at h2
  simp only [Bool.or_eq_true, beq_iff_eq] at h2
  rw [hb]
  rcases h2 with (rfl | rfl) | rfl <;> decide
theorem bt_lt7 {a : ByteArray} (h : a.data.toList.all sgn = true) {i : Nat} (hi : i < a.size) : bt a (i : Int) < 128 := by
  rcases sgn_three7 h (i := (i : Int)) (by omega) (by omega) with h | h | h <;> omega
theorem liAt_eq (x : ByteArray) (h1 : 1 ≤ x.size) (hs : x.size ≤ 100) (j : Int) : ∃ c, spec_liAt.f x j = some c ∧ (c = 46 ↔ (0 ≤ j ∧ j < (x.size : Int) ∧ bt x j = 46)) := by
  unfold spec_liAt.f
  rw [w64 (by omega) (by omega), l1In_eq]
  simp only [Option.bind_some]
  by_cases hj : 0 ≤ j ∧ j ≤ (x.size : Int) - 1
  · rw [if_pos (by simp; omega), if_pos hj.1, if_pos (by omega)]
    exact ⟨_, rfl, fun h => ⟨hj.1, by omega, h⟩, fun h => h.2.2⟩
  · rw [if_neg (by simp; omega)]
    exact ⟨32, rfl, fun h => by omega, fun h => absurd ⟨h.1, by omega⟩ hj⟩
/-- the reference: one stone, the places from j on -/
theorem before_l1 {x : ByteArray} (h1 : 1 ≤ x.size) (hs : x.size ≤ 10) (hl : x.data.toList.all sgn = true) (i : Nat) (hi : i < x.size) (hc : bt x (i : Int) ≠ 46) : ∀ (d : Nat) (j : Int) (k : Nat) (F : List ByteArray), j + d = (i : Int) + 3 → -2 ≤ j → Srt F → F.length + d ≤ 1000 → 1100 + d < k →
    ∃ (k' : Nat) (F' : List ByteArray), k ≤ k' + d + 1 ∧ F'.length ≤ F.length + d ∧ Srt F' ∧ (∀ v, v ∈ F' ↔ v ∈ F ∨ ∃ q : Nat, j ≤ (q : Int) ∧ (q : Int) < (i : Int) + 3 ∧ stepP x i q v) ∧
      spec_LinesBefore.l1 k x F (i : Int) j ((i + 1 : Nat) : Int) x = spec_LinesBefore.l0 k' x F' ((i + 1 : Nat) : Int) x := by
  intro d
  induction d with
  | zero =>
    intro j k F hj h2 hF hle hk
    obtain ⟨k, rfl⟩ : ∃ q, k = q + 1 := ⟨k - 1, by omega⟩
    refine ⟨k, F, by omega, by omega, hF, fun v => ⟨.inl, fun h => by rcases h with h | ⟨q, q1, q2, _⟩; exact h; omega⟩, ?_⟩
    rw [spec_LinesBefore.l1, w64 (by omega) (by omega), if_neg (by omega)]
  | succ d ih =>
    intro j k F hj h2 hF hle hk
    obtain ⟨k, rfl⟩ : ∃ q, k = q + 1 := ⟨k - 1, by omega⟩
    obtain ⟨c, ec, hcc⟩ := liAt_eq x h1 (by omega) j
    have skip : ¬ (∃ q : Nat, (q : Int) = j ∧ ∃ v, stepP x i q v) → ∀ v, (∃ q : Nat, j + 1 ≤ (q : Int) ∧ (q : Int) < (i : Int) + 3 ∧ stepP x i q v) ↔ (∃ q : Nat, j ≤ (q : Int) ∧ (q : Int) < (i : Int) + 3 ∧ stepP x i q v) := fun hno v => by
      constructor
      · rintro ⟨q, q1, q2, q3⟩; exact ⟨q, by omega, q2, q3⟩
      · rintro ⟨q, q1, q2, q3⟩
        by_cases hq : (q : Int) = j
        · exact absurd ⟨q, hq, v, q3⟩ hno
        · exact ⟨q, by omega, q2, q3⟩
    rw [spec_LinesBefore.l1, w64 (x := (i : Int) + 2) (by omega) (by omega), if_pos (by omega), ec]
    simp only [Option.bind_some]
    rw [w64 (x := j + 1) (by omega) (by omega)]
    by_cases hc46 : c = 46
    case neg =>
      obtain ⟨k', F', g1, g2, g3, g4, g5⟩ := ih (j + 1) k F (by omega) (by omega) hF (by omega) (by omega)
      refine ⟨k', F', by omega, by omega, g3, fun v => ?_, by rw [if_neg hc46]; exact g5⟩
      rw [g4, skip (fun ⟨q, hq, v, hv⟩ => hc46 (hcc.2 ⟨by omega, by have := hv.1; omega, by rw [← hq]; exact hv.2.2.1⟩))]
    obtain ⟨j0, j1, j2⟩ := hcc.1 hc46
    obtain ⟨q, rfl⟩ : ∃ q : Nat, j = (q : Int) := ⟨j.toNat, by omega⟩
    have hne : (i : Int) ≠ (q : Int) := fun e => hc (by rw [e]; exact j2)
    rw [if_pos hc46, liMake_eq x (by omega) (i : Int) (q : Int) (by omega) (by omega) (by omega) j1 hne]
    simp only [Option.bind_some]
    rw [liCan_eq _ (by rw [mv_size]; exact h1) (by rw [mv_size]; omega) (q : Int) (i : Int) k (by omega)]
    simp only [Option.bind_some]
    by_cases hcan : canP (mv x (i : Int) (q : Int)) (q : Int) (i : Int)
    · rw [if_pos (decide_eq_true hcan)]
      obtain ⟨r, r1, r2, r3, r4⟩ := reAdd_one (F := F) (by omega) hF (mv x (i : Int) (q : Int)) k (by omega)
      rw [r1]
      simp only [Option.bind_some]
      obtain ⟨k', F', g1, g2, g3, g4, g5⟩ := ih ((q : Int) + 1) k r (by omega) (by omega) r3 (by omega) (by omega)
      refine ⟨k', F', by omega, by omega, g3, fun v => ?_, g5⟩
      rw [g4, r4]
      constructor
      · rintro ((rfl | h) | ⟨p, p1, p2, p3⟩)
        · exact .inr ⟨q, by omega, by omega, by omega, hc, j2, hcan, rfl⟩
        · exact .inl h
        · exact .inr ⟨p, by omega, p2, p3⟩
      · rintro (h | ⟨p, p1, p2, p3⟩)
        · exact .inl (.inr h)
        · by_cases hp : p = q
          · subst hp
            exact .inl (.inl p3.2.2.2.2)
          · exact .inr ⟨p, by omega, p2, p3⟩
    · rw [if_neg (by simpa using hcan)]
      obtain ⟨k', F', g1, g2, g3, g4, g5⟩ := ih ((q : Int) + 1) k F (by omega) (by omega) hF (by omega) (by omega)
      refine ⟨k', F', by omega, by omega, g3, fun v => ?_, g5⟩
      rw [g4, skip (fun ⟨p, hp, v, hv⟩ => hcan (by have e : p = q := (by omega); subst e; exact hv.2.2.2.1))]
theorem before_l0 {x : ByteArray} (h1 : 1 ≤ x.size) (hs : x.size ≤ 10) (hl : x.data.toList.all sgn = true) : ∀ (d i k : Nat) (F : List ByteArray), i + d = x.size → Srt F → F.length + 5 * d ≤ 900 → 1200 + 10 * d < k →
    ∃ F' : List ByteArray, F'.length ≤ F.length + 5 * d ∧ Srt F' ∧ (∀ v, v ∈ F' ↔ v ∈ F ∨ ∃ p q : Nat, i ≤ p ∧ p < x.size ∧ (p : Int) - 2 ≤ (q : Int) ∧ (q : Int) < (p : Int) + 3 ∧ stepP x p q v) ∧ spec_LinesBefore.l0 k x F (i : Int) x = some (F', true) := by
  intro d
  induction d with
  | zero =>
    intro i k F hi hF hle hk
    obtain ⟨k, rfl⟩ : ∃ q, k = q + 1 := ⟨k - 1, by omega⟩
    refine ⟨F, by omega, hF, fun v => ⟨.inl, fun h => by rcases h with h | ⟨p, q, p1, p2, _⟩; exact h; omega⟩, ?_⟩
    rw [spec_LinesBefore.l0, if_pos (by omega), if_neg (by omega)]
  | succ d ih =>
    intro i k F hi hF hle hk
    obtain ⟨k, rfl⟩ : ∃ q, k = q + 1 := ⟨k - 1, by omega⟩
    rw [spec_LinesBefore.l0, if_pos (by omega), if_pos (by omega), if_pos (bt_lt7 hl (by omega)), if_pos (by omega)]
    have hw : (i : Int) + 1 = ((i + 1 : Nat) : Int) := rfl
    rw [hw]
    by_cases hc : bt x (i : Int) = 46
    · rw [if_pos hc]
      obtain ⟨F', g1, g2, g3, g4⟩ := ih (i + 1) k F (by omega) hF (by omega) (by omega)
      refine ⟨F', by omega, g2, fun v => ?_, g4⟩
      rw [g3]
      constructor
      · rintro (h | ⟨p, q, p1, p2⟩)
        · exact .inl h
        · exact .inr ⟨p, q, by omega, p2⟩
      · rintro (h | ⟨p, q, p1, p2, p3, p4, p5⟩)
        · exact .inl h
        · by_cases hp : p = i
          · subst hp; exact absurd hc p5.2.1
          · exact .inr ⟨p, q, by omega, p2, p3, p4, p5⟩
    · rw [if_neg hc, w64 (x := (i : Int) - 2) (by omega) (by omega)]
      obtain ⟨k', F1, f1, f2, f3, f4, f5⟩ := before_l1 h1 hs hl i (by omega) hc 5 ((i : Int) - 2) k F (by omega) (by omega) hF (by omega) (by omega)
      obtain ⟨F', g1, g2, g3, g4⟩ := ih (i + 1) k' F1 (by omega) f3 (by omega) (by omega)
      refine ⟨F', by omega, g2, fun v => ?_, f5.trans g4⟩
      rw [g3, f4]
      constructor
      · rintro ((h | ⟨q, q1, q2, q3⟩) | ⟨p, q, p1, p2⟩)
        · exact .inl h
        · exact .inr ⟨i, q, by omega, by omega, q1, q2, q3⟩
        · exact .inr ⟨p, q, by omega, p2⟩
      · rintro (h | ⟨p, q, p1, p2, p3, p4, p5⟩)
        · exact .inl (.inl h)
        · by_cases hp : p = i
          · subst hp; exact .inl (.inr ⟨q, p3, p4, p5⟩)
          · exact .inr ⟨p, q, by omega, p2, p3, p4, p5⟩
/-- how far a stone goes in a step -/
def stp (c : Int) : Int := if c = 84 then 1 else if c = 70 then -1 else 0
theorem stepOf_eq (c : Int) : impl_stepOf.f c = some (stp c) := by
  unfold impl_stepOf.f stp
  split
  · rfl
  · split <;> rfl
theorem at_eq (x : ByteArray) (hs : x.size ≤ 100) (j : Int) : ∃ c, impl_at.f x j = some c ∧ (c = 46 ↔ (0 ≤ j ∧ j < (x.size : Int) ∧ bt x j = 46)) := by
  rw [impl_at_eq]
  refine ⟨_, rfl, fun h => ?_, fun h => ?_⟩
  · exact sg_is h (by decide)
  · rw [sg_in h.1 h.2.1]; exact h.2.2
/-- the program: one stone, one place -/
theorem ours_one {x : ByteArray} (h1 : 1 ≤ x.size) (hs : x.size ≤ 10) (i : Nat) (hi : i < x.size) (q : Nat) (hq : q < 2) (j : Int) (hj : j = (i : Int) - stp (bt x (i : Int)) ∧ q = 0 ∨ j = (i : Int) - 2 * stp (bt x (i : Int)) ∧ q = 1) (hl : x.data.toList.all sgn = true) (L : List ByteArray) (hL : L.length ≤ 1000) (k : Nat) (hk : 10 < k) :
    ∃ (k' : Nat) (L' : List ByteArray), k ≤ k' + 2 ∧ L'.length ≤ L.length + 1 ∧ (∀ v, v ∈ L' ↔ v ∈ L ∨ ∃ p : Nat, (p : Int) = j ∧ stepP x i p v) ∧
      impl_LinesBefore.l1 k x L (i : Int) (stp (bt x (i : Int))) (x.size : Int) (i : Int) [(i : Int) - stp (bt x (i : Int)), (i : Int) - 2 * stp (bt x (i : Int))] 2 (q : Int) =
        impl_LinesBefore.l1 k' x L' (i : Int) (stp (bt x (i : Int))) (x.size : Int) (i : Int) [(i : Int) - stp (bt x (i : Int)), (i : Int) - 2 * stp (bt x (i : Int))] 2 ((q + 1 : Nat) : Int) := by
  obtain ⟨k, rfl⟩ : ∃ m, k = m + 2 := ⟨k - 2, by omega⟩
  have hrd : rd [(i : Int) - stp (bt x (i : Int)), (i : Int) - 2 * stp (bt x (i : Int))] (q : Int) = j := by
    rcases hj with ⟨rfl, rfl⟩ | ⟨rfl, rfl⟩ <;> rfl
  have hw : wrap64 ((q : Int) + 1) = ((q + 1 : Nat) : Int) := by rw [w64 (by omega) (by omega)]; rfl
  rw [impl_LinesBefore.l1, if_pos (by omega), if_pos (by omega), if_pos (show (q : Int) < ((([(i : Int) - stp (bt x (i : Int)), (i : Int) - 2 * stp (bt x (i : Int))] : List Int)).length : Int) by show (q : Int) < 2; omega), hrd]
  have none_ : (∀ p : Nat, (p : Int) = j → ∀ v, ¬ stepP x i p v) → ∀ v, v ∈ L ↔ v ∈ L ∨ ∃ p : Nat, (p : Int) = j ∧ stepP x i p v := fun hno v => ⟨.inl, fun h => by rcases h with h | ⟨p, hp, h⟩; exact h; exact absurd h (hno p hp v)⟩
  by_cases hd : stp (bt x (i : Int)) = 0
  · rw [if_pos hd, impl_LinesBefore.j2, if_pos rfl, hw]
    refine ⟨k, L, by omega, by omega, none_ (fun p _ v hv => ?_), rfl⟩
    have h46 : bt x (i : Int) = 46 := by
      rcases sgn_three7 hl (i := (i : Int)) (by omega) (by omega) with h | h | h
      · rw [h] at hd; exact absurd hd (by decide)
      · rw [h] at hd; exact absurd hd (by decide)
      · exact h
    exact hv.2.1 h46
  · rw [if_neg hd]
    obtain ⟨c, ec, hcc⟩ := at_eq x (by omega) j
    rw [ec]
    simp only [Option.bind_some]
    rw [impl_LinesBefore.j2]
    by_cases hc46 : c = 46
    case neg =>
      rw [if_pos (by simpa using hc46), hw]
      exact ⟨k, L, by omega, by omega, none_ (fun p hp v hv => hc46 (hcc.2 ⟨by omega, by have := hv.1; omega, by rw [← hp]; exact hv.2.2.1⟩)), rfl⟩
    obtain ⟨j0, j1, j2⟩ := hcc.1 hc46
    obtain ⟨p, rfl⟩ : ∃ p : Nat, j = (p : Int) := ⟨j.toNat, by omega⟩
    have hci : bt x (i : Int) ≠ 46 := fun h => hd (by rw [h]; rfl)
    have hne : (i : Int) ≠ (p : Int) := fun e => hci (by rw [e]; exact j2)
    rw [if_neg (by simp [hc46]), impl_made_eq x (by omega) (i : Int) (p : Int) (by omega) (by omega) j0 j1 hne]
    simp only [Option.bind_some]
    rw [impl_can_eq _ (by rw [mv_size]; exact h1) (by rw [mv_size]; omega) (p : Int) (i : Int)]
    simp only [Option.bind_some]
    by_cases hcan : canP (mv x (i : Int) (p : Int)) (p : Int) (i : Int)
    · rw [if_pos (decide_eq_true hcan), if_pos (by omega), hw]
      refine ⟨k, L ++ [mv x (i : Int) (p : Int)], by omega, by rw [List.length_append, List.length_singleton]; omega, fun v => ?_, rfl⟩
      rw [List.mem_append, List.mem_singleton]
      constructor
      · rintro (h | rfl)
        · exact .inl h
        · exact .inr ⟨p, rfl, by omega, hci, j2, hcan, rfl⟩
      · rintro (h | ⟨p', hp', h⟩)
        · exact .inl h
        · obtain rfl : p' = p := by omega
          exact .inr h.2.2.2.2
    · rw [if_neg (by simpa using hcan), hw]
      exact ⟨k, L, by omega, by omega, none_ (fun p' hp' v hv => hcan (by have e : p' = p := (by omega); subst e; exact hv.2.2.2.1)), rfl⟩
theorem ours_l0 {x : ByteArray} (h1 : 1 ≤ x.size) (hs : x.size ≤ 10) (hl : x.data.toList.all sgn = true) : ∀ (d i k : Nat) (L : List ByteArray), i + d = x.size → L.length + 2 * d ≤ 900 → 100 + 10 * d < k →
    ∃ L' : List ByteArray, L'.length ≤ L.length + 2 * d ∧ (∀ v, v ∈ L' ↔ v ∈ L ∨ ∃ p q : Nat, i ≤ p ∧ p < x.size ∧ ((q : Int) = (p : Int) - stp (bt x (p : Int)) ∨ (q : Int) = (p : Int) - 2 * stp (bt x (p : Int))) ∧ stepP x p q v) ∧ impl_LinesBefore.l0 k x L (x.size : Int) (i : Int) = some (compacted (sorted L'), true) := by
  intro d
  induction d with
  | zero =>
    intro i k L hi hle hk
    obtain ⟨k, rfl⟩ : ∃ q, k = q + 1 := ⟨k - 1, by omega⟩
    refine ⟨L, by omega, fun v => ⟨.inl, fun h => by rcases h with h | ⟨p, q, p1, p2, _⟩; exact h; omega⟩, ?_⟩
    have hsl : (sorted L).length = L.length := by unfold sorted texts Go.Proofs.YtpfahibbmkcnoaaDoor.Sorts.bytes; rw [List.length_map, List.length_mergeSort, List.length_map]
    rw [impl_LinesBefore.l0, if_neg (by omega)]
    unfold slices_Sort_string_string.f slices_Compact_string_string.f
    rw [if_pos (by omega)]
    simp only [Option.bind_some]
    rw [if_pos (by omega)]
    rfl
  | succ d ih =>
    intro i k L hi hle hk
    obtain ⟨k, rfl⟩ : ∃ q, k = q + 1 := ⟨k - 1, by omega⟩
    have hst : stp (bt x (i : Int)) = 1 ∨ stp (bt x (i : Int)) = -1 ∨ stp (bt x (i : Int)) = 0 := by
      unfold stp
      split
      · exact .inl rfl
      · split
        · exact .inr (.inl rfl)
        · exact .inr (.inr rfl)
    rw [impl_LinesBefore.l0, if_pos (by omega), if_pos (by omega), if_pos (by omega), stepOf_eq]
    simp only [Option.bind_some]
    have w1 : wrap64 ((i : Int) - stp (bt x (i : Int))) = (i : Int) - stp (bt x (i : Int)) := by
      rcases hst with h | h | h <;> rw [h, w64 (by omega) (by omega)]
    have w2 : wrap64 (2 * stp (bt x (i : Int))) = 2 * stp (bt x (i : Int)) := by
      rcases hst with h | h | h <;> rw [h, w64 (by omega) (by omega)]
    have w3 : wrap64 ((i : Int) - 2 * stp (bt x (i : Int))) = (i : Int) - 2 * stp (bt x (i : Int)) := by
      rcases hst with h | h | h <;> rw [h, w64 (by omega) (by omega)]
    rw [w1, w2, w3]
    obtain ⟨k1, L1, a1, a2, a3, a4⟩ := ours_one h1 hs i (by omega) 0 (by omega) _ (.inl ⟨rfl, rfl⟩) hl L (by omega) k (by omega)
    obtain ⟨k2, L2, b1, b2, b3, b4⟩ := ours_one h1 hs i (by omega) 1 (by omega) _ (.inr ⟨rfl, rfl⟩) hl L1 (by omega) k1 (by omega)
    obtain ⟨k3, rfl⟩ : ∃ q, k2 = q + 1 := ⟨k2 - 1, by omega⟩
    obtain ⟨L', g1, g2, g3⟩ := ih (i + 1) k3 L2 (by omega) (by omega) (by omega)
    refine ⟨L', by omega, fun v => ?_, ?_⟩
    · rw [g2, b3, a3]
      constructor
      · rintro (((h | ⟨p, hp, h⟩) | ⟨p, hp, h⟩) | ⟨p, q, p1, p2⟩)
        · exact .inl h
        · exact .inr ⟨i, p, by omega, by omega, .inl hp, h⟩
        · exact .inr ⟨i, p, by omega, by omega, .inr hp, h⟩
        · exact .inr ⟨p, q, by omega, p2⟩
      · rintro (h | ⟨p, q, p1, p2, p3, p4⟩)
        · exact .inl (.inl (.inl h))
        · by_cases hp : p = i
          · subst hp
            rcases p3 with p3 | p3
            · exact .inl (.inl (.inr ⟨q, p3, p4⟩))
            · exact .inl (.inr ⟨q, p3, p4⟩)
          · exact .inr ⟨p, q, by omega, p2, p3, p4⟩
    · have e2 : ((([(i : Int) - stp (bt x (i : Int)), (i : Int) - 2 * stp (bt x (i : Int))] : List Int)).length : Int) = 2 := rfl
      rw [e2]
      refine Eq.trans a4 (Eq.trans b4 ?_)
      rw [impl_LinesBefore.l1, if_neg (by omega), w64_succ (n := x.size) (by omega) (by omega)]
      exact g3
theorem bt_mv7 {x : ByteArray} {f t : Nat} (hf : f < x.size) (ht : t < x.size) (hne : f ≠ t) : bt (mv x (f : Int) (t : Int)) (t : Int) = bt x (f : Int) ∧ bt (mv x (f : Int) (t : Int)) (f : Int) = 46 := by
  have hl : x.data.toList.length = x.size := data_length x
  have hs := mv_size x (f : Int) (t : Int)
  have at_ : ∀ (z : ByteArray) (i : Nat) (c : UInt8), i < z.size → z.data.toList[i]? = some c → bt z (i : Int) = (c.toNat : Int) := fun z i c hi hc => by
    obtain ⟨c', hd, hb⟩ := bt_eq z i hi
    have := congrArg (·[0]?) hd
    simp only [List.getElem?_drop, Nat.add_zero, List.getElem?_cons_zero, hc] at this
    rw [hb]
    cases this
    rfl
  have hm : (mv x (f : Int) (t : Int)).data.toList = (x.data.toList.set t (x.data.toList.getD f 0)).set f 46 := by unfold mv; simp only [Int.toNat_natCast]
  constructor
  · obtain ⟨c, hd, hb⟩ := bt_eq x f hf
    have hc := congrArg (·[0]?) hd
    simp only [List.getElem?_drop, Nat.add_zero, List.getElem?_cons_zero] at hc
    rw [hb]
    refine at_ _ t c (by omega) ?_
    rw [hm, List.getElem?_set_ne hne, List.getElem?_set_self (by omega), List.getD_eq_getElem?_getD, hc]
    rfl
  · exact at_ _ f 46 (by omega) (by rw [hm, List.getElem?_set_self (by simp; omega)])
/-- both collect the same -/
theorem same_before {x : ByteArray} (hs : x.size ≤ 10) (hl : x.data.toList.all sgn = true) {p q : Nat} (hp : p < x.size) {v : ByteArray} (h : stepP x p q v) : ((p : Int) - 2 ≤ (q : Int) ∧ (q : Int) < (p : Int) + 3) ∧ ((q : Int) = (p : Int) - stp (bt x (p : Int)) ∨ (q : Int) = (p : Int) - 2 * stp (bt x (p : Int))) := by
  obtain ⟨hq, h1, h2, h3, _⟩ := h
  have hne : (p : Int) ≠ (q : Int) := fun e => h1 (by rw [e]; exact h2)
  have hbt := (bt_mv7 (x := x) (f := p) (t := q) hp hq (by omega)).1
  obtain ⟨_, _, _, _, _, h4⟩ := h3
  rw [hbt] at h4
  rcases h4 with ⟨h5, h6⟩ | ⟨h5, h6⟩
  · have : stp (bt x (p : Int)) = 1 := by unfold stp; rw [if_pos h5]
    rw [this]
    rcases h6 with h6 | ⟨h6, _⟩ <;> (constructor; constructor; omega; omega; omega)
  · have : stp (bt x (p : Int)) = -1 := by unfold stp; rw [if_neg (by omega), if_pos h5]
    rw [this]
    rcases h6 with h6 | ⟨h6, _⟩ <;> (constructor; constructor; omega; omega; omega)
theorem reFew_eq7 (a : ByteArray) (hs : a.size ≤ 140737488351232) (k : Nat) (hk : 20 ≤ k) : spec_reFew.f k a = some (isLine 10 a) := by
  unfold spec_reFew.f
  rw [liGood_eq a hs k hk]
  simp only [Option.bind_some]
  unfold isLine
  by_cases h1 : a.size ≤ 10
  · rw [decide_eq_true h1, decide_eq_true (show a.size ≤ 12 by omega), decide_eq_true (show (a.size : Int) ≤ 10 by omega)]
    cases (decide (1 ≤ a.size) && (true && a.data.toList.all sgn)) <;> rfl
  · rw [decide_eq_false h1, decide_eq_false (show ¬ (a.size : Int) ≤ 10 by omega), Bool.false_and, Bool.and_false]
    split <;> rfl
theorem impl_isReachLine_eq (a : ByteArray) (hs : a.size ≤ 140737488351232) : impl_isReachLine.f a = some (isLine 10 a) := by
  unfold impl_isReachLine.f
  rw [show impl_isLineOf.f a 10 = some (isLine 10 a) from isLineOf_eq a 10 hs]
  rfl
end Go.Proofs.YtpfahibbmkcnoaaDoor.XE
