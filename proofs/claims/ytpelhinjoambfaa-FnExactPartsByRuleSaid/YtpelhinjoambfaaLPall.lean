/- Plain facts on lines, moves and searches, for the statement at hand: each theorem names its conditions. -/
import Derived.Test.YtpelhinjoambfaaB
import Derived.Test.YtpelhinjoambfaaXW
import Derived.Test.YtpelhinjoambfaaRanks
import Derived.Test.YtpelhinjoambfaaXP0
import Derived.Test.YtpelhinjoambfaaXP1
import Derived.Test.YtpelhinjoambfaaXP11
import Derived.Test.YtpelhinjoambfaaXP12
import Derived.Test.YtpelhinjoambfaaXP13
import Derived.Test.YtpelhinjoambfaaXP14
import Derived.Test.YtpelhinjoambfaaXP2
import Derived.Test.YtpelhinjoambfaaXP3
import Derived.Test.YtpelhinjoambfaaXP4
import Derived.Test.YtpelhinjoambfaaXP5
import Derived.Test.YtpelhinjoambfaaXP6
import Derived.Test.YtpelhinjoambfaaXP7
import Derived.Test.YtpelhinjoambfaaXP8
import Derived.Test.YtpelhinjoambfaaXP9
namespace Go.Proofs.Ytpelhinjoambfaa.XP
set_option linter.unusedVariables false
set_option linter.unusedSimpArgs false
open Go Go.RowKit Go.Proofs.YtpelhinjoambfaaW.PrintWords Go.Proofs.YtpelhinjoambfaaB

theorem l1In_eq (a b c : Int) : spec_l1In.f a b c = some (decide (b ≤ a) && decide (a ≤ c)) := by
  unfold spec_l1In.f
  by_cases h : b ≤ a <;> simp [h]
theorem within_eq (a b c : Int) : impl_within.f a b c = some (decide (b ≤ a) && decide (a ≤ c)) := by
  unfold impl_within.f
  by_cases h : b ≤ a <;> simp [h]
end Go.Proofs.Ytpelhinjoambfaa.XP

namespace Go.Proofs.Ytpelhinjoambfaa.XP
set_option linter.unusedVariables false
set_option linter.unusedSimpArgs false
open Go Go.RowKit Go.Proofs.YtpelhinjoambfaaW.PrintWords Go.Proofs.YtpelhinjoambfaaB

/-- the sign at a place, 0 outside -/
def sg (a : ByteArray) (i : Int) : Int := if 0 ≤ i ∧ i < (a.size : Int) then bt a i else 0
theorem impl_at_eq (a : ByteArray) (i : Int) : impl_at.f a i = some (sg a i) := by
  unfold impl_at.f sg
  by_cases h0 : i < 0
  · rw [if_pos h0, if_neg (by omega)]
  · rw [if_neg h0]
    by_cases h1 : i ≥ (a.size : Int)
    · rw [if_pos h1, if_neg (by omega)]
    · rw [if_neg h1, if_pos (by omega), if_pos (by omega), if_pos (by omega)]
theorem sg_in {a : ByteArray} {i : Int} (h0 : 0 ≤ i) (h1 : i < (a.size : Int)) : sg a i = bt a i := if_pos ⟨h0, h1⟩
theorem sg_is {a : ByteArray} {i c : Int} (h : sg a i = c) (hc : c ≠ 0) : 0 ≤ i ∧ i < (a.size : Int) ∧ bt a i = c := by
  unfold sg at h
  split at h
  · rename_i hi
    exact ⟨hi.1, hi.2, h⟩
  · exact absurd h.symm hc
end Go.Proofs.Ytpelhinjoambfaa.XP

namespace Go.Proofs.Ytpelhinjoambfaa.XP
set_option linter.unusedVariables false
set_option linter.unusedSimpArgs false
open Go Go.RowKit Go.Proofs.YtpelhinjoambfaaW.PrintWords Go.Proofs.YtpelhinjoambfaaB
theorem rd_drop (l : List S58) (i : Nat) (hi : i < l.length) : l.drop i = rd_T58 l (i : Int) :: l.drop (i + 1) := by
  rw [List.drop_eq_getElem_cons hi]
  unfold rd_T58
  rw [Int.toNat_natCast, List.getD_eq_getElem?_getD, List.getElem?_eq_getElem hi]
  rfl
end Go.Proofs.Ytpelhinjoambfaa.XP

namespace Go.Proofs.Ytpelhinjoambfaa.XP
set_option linter.unusedVariables false
set_option linter.unusedSimpArgs false
open Go Go.RowKit Go.Proofs.YtpelhinjoambfaaW.PrintWords Go.Proofs.YtpelhinjoambfaaB

instance : DecidableEq S58 := fun x y => decidable_of_iff (x.f0 = y.f0 ∧ x.f1 = y.f1) (by obtain ⟨a, b⟩ := x; obtain ⟨c, d⟩ := y; simp)
/-- all moves from f to a place from j on, e places, that p lets in -/
def collect (p : Int → Bool) (f : Int) : Nat → Nat → List S58
  | 0, _ => []
  | e + 1, j => (if p (j : Int) = true then [⟨f, (j : Int)⟩] else []) ++ collect p f e (j + 1)
theorem collect_length (p : Int → Bool) (f : Int) : ∀ (e j : Nat), (collect p f e j).length ≤ e
  | 0, _ => by simp [collect]
  | e + 1, j => by
    have h := collect_length p f e (j + 1)
    rw [collect, List.length_append]
    split
    · simp; omega
    · simp; omega
theorem collect_none (p : Int → Bool) (f : Int) : ∀ (e j : Nat), (∀ t : Nat, j ≤ t → t < j + e → p (t : Int) = false) → collect p f e j = []
  | 0, _, _ => rfl
  | e + 1, j, h => by
    rw [collect, h j (by omega) (by omega), collect_none p f e (j + 1) (fun t h1 h2 => h t (by omega) (by omega))]
    rfl
theorem collect_split (p : Int → Bool) (f : Int) : ∀ (e1 e2 j : Nat), collect p f (e1 + e2) j = collect p f e1 j ++ collect p f e2 (j + e1)
  | 0, e2, j => by rw [Nat.zero_add]; rfl
  | e1 + 1, e2, j => by
    rw [show e1 + 1 + e2 = (e1 + e2) + 1 from by omega, collect, collect, collect_split p f e1 e2 (j + 1), List.append_assoc, show j + 1 + e1 = j + (e1 + 1) from by omega]
theorem collect_one (p : Int → Bool) (f : Int) (e j g : Nat) (h1 : j ≤ g) (h2 : g < j + e) (h : ∀ t : Nat, j ≤ t → t < j + e → (p (t : Int) = true ↔ t = g)) : collect p f e j = [⟨f, (g : Int)⟩] := by
  obtain ⟨a, rfl⟩ : ∃ a, g = j + a := ⟨g - j, by omega⟩
  obtain ⟨b, rfl⟩ : ∃ b, e = a + (1 + b) := ⟨e - a - 1, by omega⟩
  have no : ∀ t : Nat, j ≤ t → t < j + (a + (1 + b)) → t ≠ j + a → p (t : Int) = false := fun t x y z => by
    cases hp : p (t : Int) with
    | false => rfl
    | true => exact absurd ((h t x y).1 hp) z
  rw [collect_split, collect_split, collect_none p f a j (fun t x y => no t x (by omega) (by omega)), collect_none p f b (j + a + 1) (fun t x y => no t (by omega) (by omega) (by omega))]
  simp only [collect, (h (j + a) (by omega) (by omega)).2 rfl, if_true, List.nil_append, List.append_nil]
theorem collect_mem (p : Int → Bool) (f : Int) (m : S58) : ∀ (e j : Nat), m ∈ collect p f e j ↔ (m.f0 = f ∧ p m.f1 = true ∧ (j : Int) ≤ m.f1 ∧ m.f1 < (j : Int) + e)
  | 0, j => by simp [collect]
  | e + 1, j => by
    rw [collect, List.mem_append, collect_mem p f m e (j + 1)]
    obtain ⟨x, y⟩ := m
    simp only
    constructor
    · rintro (h | h)
      · split at h
        · rename_i hp
          simp only [List.mem_singleton, S58.mk.injEq] at h
          obtain ⟨rfl, rfl⟩ := h
          exact ⟨rfl, hp, by omega, by omega⟩
        · cases h
      · exact ⟨h.1, h.2.1, by omega, by omega⟩
    · rintro ⟨rfl, hp, h1, h2⟩
      by_cases e : y = (j : Int)
      · subst e
        rw [if_pos hp]
        exact .inl (by simp)
      · exact .inr ⟨rfl, hp, by omega, by omega⟩
/-- place after place -/
def each (g : Nat → List S58) : Nat → Nat → List S58
  | 0, _ => []
  | d + 1, i => g i ++ each g d (i + 1)
theorem each_length (g : Nat → List S58) (c : Nat) (h : ∀ i, (g i).length ≤ c) : ∀ (d i : Nat), (each g d i).length ≤ d * c
  | 0, _ => by simp [each]
  | d + 1, i => by
    have h1 := each_length g c h d (i + 1)
    have h2 := h i
    rw [each, List.length_append, Nat.add_mul]
    omega
theorem each_congr (g g' : Nat → List S58) : ∀ (d i : Nat), (∀ j, i ≤ j → j < i + d → g j = g' j) → each g d i = each g' d i
  | 0, _, _ => rfl
  | d + 1, i, h => by rw [each, each, h i (by omega) (by omega), each_congr g g' d (i + 1) (fun j h1 h2 => h j (by omega) (by omega))]
theorem each_mem (g : Nat → List S58) (m : S58) : ∀ (d i : Nat), m ∈ each g d i ↔ ∃ j, i ≤ j ∧ j < i + d ∧ m ∈ g j
  | 0, i => by simp [each]; omega
  | d + 1, i => by
    rw [each, List.mem_append, each_mem g m d (i + 1)]
    constructor
    · rintro (h | ⟨j, h1, h2, h3⟩)
      · exact ⟨i, by omega, by omega, h⟩
      · exact ⟨j, by omega, by omega, h3⟩
    · rintro ⟨j, h1, h2, h3⟩
      by_cases e : j = i
      · subst e; exact .inl h3
      · exact .inr ⟨j, by omega, by omega, h3⟩
end Go.Proofs.Ytpelhinjoambfaa.XP

namespace Go.Proofs.Ytpelhinjoambfaa.XP
set_option linter.unusedVariables false
set_option linter.unusedSimpArgs false
open Go Go.RowKit Go.Proofs.YtpelhinjoambfaaW.PrintWords Go.Proofs.YtpelhinjoambfaaB

def oth (c : Int) : Int := if c = 84 then 70 else if c = 70 then 84 else c
theorem impl_other_eq (c : Int) : impl_other.f c = some (oth c) := by
  unfold impl_other.f oth
  split
  · rfl
  · split <;> rfl
/-- what is jumped over -/
def jmp (o : Bool) (c x : Int) : Bool := x == oth c || (o && x == c)
theorem goalBy_l0 (a : ByteArray) (hs : a.size ≤ 100) (i : Nat) (hi : i < a.size) (hc : bt a (i : Int) = 84 ∨ bt a (i : Int) = 70) (d : Int) (hd : d = 1 ∨ d = -1) (o b l : Bool) :
    ∀ (e m : Nat), m + e = a.size → ∃ M : Nat, m ≤ M ∧ M ≤ a.size ∧ (∀ j : Nat, m ≤ j → j < M → jmp o (bt a i) (sg a ((i : Int) + d * (j : Int))) = true) ∧ jmp o (bt a i) (sg a ((i : Int) + d * (M : Int))) = false ∧
      ∀ k, e < k → impl_goalBy.l0 k a (i : Int) d ((i : Int) + d * (m : Int)) o b l = some ((i : Int) + d * (M : Int), decide (sg a ((i : Int) + d * (M : Int)) = 46 ∧ (M ≤ 2 ∨ l = true))) := by
  have f0 : (0 : Int) ≤ (i : Int) := by omega
  have f1 : (i : Int) < (a.size : Int) := by omega
  -- a place that is not jumped over ends the way
  have stop : ∀ m : Nat, m ≤ a.size → jmp o (bt a i) (sg a ((i : Int) + d * (m : Int))) = false → ∀ k, 0 < k → impl_goalBy.l0 k a (i : Int) d ((i : Int) + d * (m : Int)) o b l = some ((i : Int) + d * (m : Int), decide (sg a ((i : Int) + d * (m : Int)) = 46 ∧ (m ≤ 2 ∨ l = true))) := by
    intro m hm hj k hk
    obtain ⟨k, rfl⟩ : ∃ q, k = q + 1 := ⟨k - 1, by omega⟩
    have w1 : wrap64 ((i : Int) + d * (m : Int) - (i : Int)) = d * (m : Int) := by rcases hd with rfl | rfl <;> (rw [w64 (by omega) (by omega)]; omega)
    have w2 : wrap64 (d * (m : Int) * d) = (m : Int) := by rcases hd with rfl | rfl <;> (rw [w64 (by omega) (by omega)]; omega)
    have w3 : wrap64 ((m : Int) - 1) = (m : Int) - 1 := w64 (by omega) (by omega)
    unfold jmp at hj
    simp only [Bool.or_eq_false_iff, Bool.and_eq_false_iff, beq_eq_false_iff_ne] at hj
    obtain ⟨j1, j2⟩ := hj
    have fin : (if sg a ((i : Int) + d * (m : Int)) = 46 then (if (m : Int) - 1 ≤ 1 then some ((i : Int) + d * (m : Int), true) else some ((i : Int) + d * (m : Int), l)) else some ((i : Int) + d * (m : Int), false)) = some ((i : Int) + d * (m : Int), decide (sg a ((i : Int) + d * (m : Int)) = 46 ∧ (m ≤ 2 ∨ l = true))) := by
      by_cases q1 : sg a ((i : Int) + d * (m : Int)) = 46
      · rw [if_pos q1]
        by_cases q2 : (m : Int) - 1 ≤ 1
        · rw [if_pos q2, decide_eq_true ⟨q1, .inl (by omega)⟩]
        · rw [if_neg q2]
          cases l with
          | true => rw [decide_eq_true ⟨q1, .inr rfl⟩]
          | false => rw [decide_eq_false (fun h => by rcases h.2 with h | h; omega; cases h)]
      · rw [if_neg q1, decide_eq_false (fun h => q1 h.1)]
    simp only [impl_goalBy.l0, impl_at_eq, impl_other_eq, Option.bind_some]
    rw [if_pos f0, if_pos f1, if_neg j1, w1, w2, w3]
    cases o with
    | true =>
      have j3 : ¬ sg a ((i : Int) + d * (m : Int)) = bt a (i : Int) := by
        rcases j2 with j2 | j2
        · cases j2
        · exact j2
      rw [if_pos rfl, if_neg j3]
      exact fin
    | false =>
      rw [if_neg (by decide)]
      exact fin
  have go : ∀ m : Nat, m < a.size → jmp o (bt a i) (sg a ((i : Int) + d * (m : Int))) = true → ∀ k, impl_goalBy.l0 (k + 1) a (i : Int) d ((i : Int) + d * (m : Int)) o b l = impl_goalBy.l0 k a (i : Int) d ((i : Int) + d * ((m + 1 : Nat) : Int)) o b l := by
    intro m hm hj k
    have w1 : wrap64 ((i : Int) + d * (m : Int) + d) = (i : Int) + d * ((m + 1 : Nat) : Int) := by rcases hd with rfl | rfl <;> (rw [w64 (by omega) (by omega)]; omega)
    unfold jmp at hj
    simp only [Bool.or_eq_true, Bool.and_eq_true, beq_iff_eq] at hj
    simp only [impl_goalBy.l0, impl_at_eq, impl_other_eq, Option.bind_some]
    rw [if_pos f0, if_pos f1, w1]
    by_cases q : sg a ((i : Int) + d * (m : Int)) = oth (bt a (i : Int))
    · rw [if_pos q]
    · rw [if_neg q]
      rcases hj with h | ⟨h1, h2⟩
      · exact absurd h q
      · rw [if_pos h1, if_pos h2]
  intro e
  induction e with
  | zero =>
    intro m hm
    have hout : jmp o (bt a i) (sg a ((i : Int) + d * (m : Int))) = false := by
      have hz : sg a ((i : Int) + d * (m : Int)) = 0 := by
        unfold sg
        rw [if_neg (by rcases hd with rfl | rfl <;> omega)]
      rw [hz]
      unfold jmp oth
      rcases hc with h | h <;> rw [h] <;> cases o <;> decide
    exact ⟨m, Nat.le_refl _, by omega, fun j h1 h2 => by omega, hout, fun k hk => stop m (by omega) hout k (by omega)⟩
  | succ e ih =>
    intro m hm
    cases hj : jmp o (bt a i) (sg a ((i : Int) + d * (m : Int))) with
    | false => exact ⟨m, Nat.le_refl _, by omega, fun j h1 h2 => by omega, hj, fun k hk => stop m (by omega) hj k (by omega)⟩
    | true =>
      obtain ⟨M, h1, h2, h3, h4, h5⟩ := ih (m + 1) (by omega)
      refine ⟨M, by omega, h2, fun j g1 g2 => ?_, h4, fun k hk => ?_⟩
      · by_cases e : j = m
        · subst e; exact hj
        · exact h3 j (by omega) g2
      · obtain ⟨k, rfl⟩ : ∃ q, k = q + 1 := ⟨k - 1, by omega⟩
        rw [go m (by omega) hj k]
        exact h5 k (by omega)
theorem goalBy_eq (a : ByteArray) (hs : a.size ≤ 100) (i : Nat) (hi : i < a.size) (hc : bt a (i : Int) = 84 ∨ bt a (i : Int) = 70) (d : Int) (hd : d = 1 ∨ d = -1) (o b l : Bool) :
    ∃ M : Nat, 1 ≤ M ∧ M ≤ a.size ∧ (∀ j : Nat, 1 ≤ j → j < M → jmp o (bt a i) (sg a ((i : Int) + d * (j : Int))) = true) ∧ jmp o (bt a i) (sg a ((i : Int) + d * (M : Int))) = false ∧
      ∀ k, a.size < k → impl_goalBy.f k a (i : Int) d o b l = some ((i : Int) + d * (M : Int), decide (sg a ((i : Int) + d * (M : Int)) = 46 ∧ (M ≤ 2 ∨ l = true))) := by
  obtain ⟨M, h1, h2, h3, h4, h5⟩ := goalBy_l0 a hs i hi hc d hd o b l (a.size - 1) 1 (by omega)
  refine ⟨M, h1, h2, h3, h4, fun k hk => ?_⟩
  unfold impl_goalBy.f
  rw [← h5 k (by omega)]
  congr 1
  rcases hd with rfl | rfl <;> (rw [w64 (by omega) (by omega)]; omega)
end Go.Proofs.Ytpelhinjoambfaa.XP

namespace Go.Proofs.Ytpelhinjoambfaa.XP
set_option linter.unusedVariables false
set_option linter.unusedSimpArgs false
open Go Go.RowKit Go.Proofs.YtpelhinjoambfaaW.PrintWords Go.Proofs.YtpelhinjoambfaaB

/-- where the stone of a place goes in a direction, if it can -/
def bgo (a : ByteArray) (o b l : Bool) (i : Nat) (d : Int) : Option Int :=
  if (bt a (i : Int) = 84 ∨ bt a (i : Int) = 70) ∧ ((bt a (i : Int) = 84 ↔ d = 1) ∨ b = true) then (match impl_goalBy.f 200 a (i : Int) d o b l with | some (t, true) => some t | _ => none) else none
theorem jmp_46 {o : Bool} {c : Int} (hc : c = 84 ∨ c = 70) : jmp o c 46 = false := by
  unfold jmp oth
  rcases hc with rfl | rfl <;> cases o <;> decide
theorem bgo_iff (a : ByteArray) (hs : a.size ≤ 100) (o b l : Bool) (i : Nat) (hi : i < a.size) (d : Int) (hd : d = 1 ∨ d = -1) (t : Int) :
    bgo a o b l i d = some t ↔ (bt a (i : Int) = 84 ∨ bt a (i : Int) = 70) ∧ ((bt a (i : Int) = 84 ↔ d = 1) ∨ b = true) ∧ ∃ m : Nat, 1 ≤ m ∧ t = (i : Int) + d * (m : Int) ∧ (∀ j : Nat, 1 ≤ j → j < m → jmp o (bt a i) (sg a ((i : Int) + d * (j : Int))) = true) ∧ sg a t = 46 ∧ (m ≤ 2 ∨ l = true) := by
  unfold bgo
  by_cases h : (bt a (i : Int) = 84 ∨ bt a (i : Int) = 70) ∧ ((bt a (i : Int) = 84 ↔ d = 1) ∨ b = true)
  case neg =>
    rw [if_neg h]
    exact ⟨(fun h1 => nomatch h1), fun h1 => absurd ⟨h1.1, h1.2.1⟩ h⟩
  rw [if_pos h]
  obtain ⟨M, h1, h2, h3, h4, h5⟩ := goalBy_eq a hs i hi h.1 d hd o b l
  rw [h5 200 (by omega)]
  constructor
  · intro h6
    by_cases q : sg a ((i : Int) + d * (M : Int)) = 46 ∧ (M ≤ 2 ∨ l = true)
    · rw [decide_eq_true q] at h6
      simp only [Option.some.injEq] at h6
      subst h6
      exact ⟨h.1, h.2, M, h1, rfl, h3, q.1, q.2⟩
    · rw [decide_eq_false q] at h6
      cases h6
  · rintro ⟨_, _, m, m1, rfl, m3, m4, m5⟩
    have e : m = M := by
      rcases Nat.lt_trichotomy m M with g | g | g
      · have := h3 m m1 g
        rw [m4, jmp_46 h.1] at this
        cases this
      · exact g
      · have := m3 M h1 g
        rw [h4] at this
        cases this
    subst e
    rw [decide_eq_true ⟨m4, m5⟩]
def bcan (a : ByteArray) (o b l : Bool) (f t : Int) : Bool := decide (0 ≤ f ∧ f < (a.size : Int)) && (bgo a o b l f.toNat (-1) == some t || bgo a o b l f.toNat 1 == some t)
def allJ (a : ByteArray) (o : Bool) (i : Nat) (d : Int) : Nat → Nat → Bool
  | 0, _ => true
  | e + 1, m => jmp o (bt a i) (sg a ((i : Int) + d * (m : Int))) && allJ a o i d e (m + 1)
theorem allJ_iff (a : ByteArray) (o : Bool) (i : Nat) (d : Int) : ∀ (e m : Nat), allJ a o i d e m = true ↔ ∀ j : Nat, m ≤ j → j < m + e → jmp o (bt a i) (sg a ((i : Int) + d * (j : Int))) = true
  | 0, m => by
    refine ⟨fun _ j h1 h2 => by omega, fun _ => rfl⟩
  | e + 1, m => by
    rw [allJ, Bool.and_eq_true, allJ_iff a o i d e (m + 1)]
    constructor
    · rintro ⟨h1, h2⟩ j g1 g2
      by_cases q : j = m
      · subst q; exact h1
      · exact h2 j (by omega) (by omega)
    · intro h
      exact ⟨h m (by omega) (by omega), fun j g1 g2 => h j (by omega) (by omega)⟩
theorem sgn_three {a : ByteArray} (h : a.data.toList.all sgn = true) {i : Int} (h0 : 0 ≤ i) (h1 : i < (a.size : Int)) : bt a i = 84 ∨ bt a i = 70 ∨ bt a i = 46 := by
  obtain ⟨n, rfl⟩ : ∃ n : Nat, i = (n : Int) := ⟨i.toNat, by omega⟩
  obtain ⟨c, hd, hb⟩ := bt_eq a n (by omega)
  have hc : c ∈ a.data.toList := List.mem_of_mem_drop (by rw [hd]; exact List.mem_cons_self)
  have h2 := List.all_eq_true.1 h c hc
  unfold sgn at h2
  simp only [Bool.or_eq_true, beq_iff_eq] at h2
  rw [hb]
  rcases h2 with (rfl | rfl) | rfl <;> decide
theorem jmp_sgn {o : Bool} {c x : Int} (hc : c = 84 ∨ c = 70) (hx : x = 84 ∨ x = 70 ∨ x = 46) : jmp o c x = if x = 46 then false else if x = c then o else true := by
  unfold jmp oth
  rcases hc with rfl | rfl <;> rcases hx with rfl | rfl | rfl <;> cases o <;> decide
theorem wd1 {d : Int} (hd : d = 1 ∨ d = -1) {m : Nat} (hm : m ≤ 100) : wrap64 ((m : Int) * d) = d * (m : Int) := by rcases hd with rfl | rfl <;> (rw [w64 (by omega) (by omega)]; omega)
theorem wd2 {d : Int} (hd : d = 1 ∨ d = -1) {m i : Nat} (hm : m ≤ 100) (hi : i ≤ 100) : wrap64 ((i : Int) + d * (m : Int)) = (i : Int) + d * (m : Int) := by rcases hd with rfl | rfl <;> exact w64 (by omega) (by omega)
theorem wd3 {m : Nat} (hm : m ≤ 100) : wrap64 ((m : Int) + 1) = ((m + 1 : Nat) : Int) := by rw [w64 (by omega) (by omega)]; rfl
theorem ruCan_l0 (a : ByteArray) (hs : a.size ≤ 100) (hl : a.data.toList.all sgn = true) (i : Nat) (hi : i < a.size) (hc : bt a (i : Int) = 84 ∨ bt a (i : Int) = 70) (d : Int) (hd : d = 1 ∨ d = -1) (n : Nat) (t : Int) (ht : t = (i : Int) + d * (n : Int)) (t0 : 0 ≤ t) (t1 : t < (a.size : Int)) (o b l : Bool) :
    ∀ (e m k : Nat), 1 ≤ m → m + e = n → e < k → spec_ruCan.l0 k a d (n : Int) (m : Int) (i : Int) t o b l = some (allJ a o i d e m) := by
  intro e
  induction e with
  | zero =>
    intro m k h1 hm hk
    obtain ⟨k, rfl⟩ : ∃ q, k = q + 1 := ⟨k - 1, by omega⟩
    simp only [spec_ruCan.l0]
    rw [if_neg (by omega), allJ]
  | succ e ih =>
    intro m k h1 hm hk
    obtain ⟨k, rfl⟩ : ∃ q, k = q + 1 := ⟨k - 1, by omega⟩
    have hn : n ≤ 100 := by rcases hd with rfl | rfl <;> omega
    have g0 : 0 ≤ (i : Int) + d * (m : Int) := by rcases hd with rfl | rfl <;> omega
    have g1 : (i : Int) + d * (m : Int) < (a.size : Int) := by rcases hd with rfl | rfl <;> omega
    have step := ih (m + 1) k (by omega) (by omega) (by omega)
    have g2 := sgn_three hl g0 g1
    have z0 : (m : Int) < (n : Int) := by omega
    have z1 : (0 : Int) ≤ (i : Int) := by omega
    have z2 : (i : Int) < (a.size : Int) := by omega
    have m1 : m ≤ 100 := by omega
    have i1 : i ≤ 100 := by omega
    have w1 := wd1 hd m1
    have w2 := wd2 hd m1 i1
    have w3 := wd3 m1
    simp only [spec_ruCan.l0]
    rw [w1, w2, w3, if_pos z0, if_pos g0, if_pos g1, allJ, sg_in g0 g1, jmp_sgn hc g2]
    by_cases q1 : bt a ((i : Int) + d * (m : Int)) = 46
    · rw [if_pos q1, if_pos q1, Bool.false_and]
    · rw [if_neg q1, if_neg q1, if_pos z1, if_pos z2]
      by_cases q2 : bt a ((i : Int) + d * (m : Int)) = bt a (i : Int)
      · rw [if_pos q2, if_pos q2]
        cases o with
        | true => rw [if_pos rfl, step, Bool.true_and]
        | false => rw [if_neg (by decide), Bool.false_and]
      · rw [if_neg q2, if_neg q2, step, Bool.true_and]
theorem ruCan_dir (a : ByteArray) (hs : a.size ≤ 100) (hl : a.data.toList.all sgn = true) (i : Nat) (hi : i < a.size) (hc : bt a (i : Int) = 84 ∨ bt a (i : Int) = 70) (d : Int) (hd : d = 1 ∨ d = -1) (n : Nat) (hn : 1 ≤ n) (t : Int) (ht : t = (i : Int) + d * (n : Int)) (t0 : 0 ≤ t) (t1 : t < (a.size : Int)) (h46 : bt a t = 46) (o b l : Bool) (k : Nat) (hk : 110 ≤ k) :
    spec_ruCan.j1 k a d (i : Int) t o b l = some (bgo a o b l i d == some t) := by
  obtain ⟨k, rfl⟩ : ∃ q, k = q + 3 := ⟨k - 3, by omega⟩
  have hn2 : n ≤ 100 := by rcases hd with rfl | rfl <;> omega
  have w1 : wrap64 (wrap64 (t - (i : Int)) * d) = (n : Int) := by subst ht; rcases hd with rfl | rfl <;> (rw [w64 (x := _ - _) (by omega) (by omega), w64 (by omega) (by omega)]; omega)
  have z1 : (0 : Int) ≤ (i : Int) := by omega
  have z2 : (i : Int) < (a.size : Int) := by omega
  have loop := ruCan_l0 a hs hl i hi hc d hd n t ht t0 t1 o b l (n - 1) 1 k (by omega) (by omega) (by omega)
  have loop : spec_ruCan.l0 k a d (n : Int) 1 (i : Int) t o b l = some (allJ a o i d (n - 1) 1) := loop
  have hbg : (bgo a o b l i d == some t) = ((decide (bt a (i : Int) = 84 ↔ d = 1) || b) && ((decide (n ≤ 2) || l) && allJ a o i d (n - 1) 1)) := by
    rw [Bool.eq_iff_iff, beq_iff_eq, bgo_iff a hs o b l i hi d hd t, Bool.and_eq_true, Bool.and_eq_true, Bool.or_eq_true, Bool.or_eq_true, decide_eq_true_eq, decide_eq_true_eq, allJ_iff]
    constructor
    · rintro ⟨_, h2, m, m1, m2, m3, _, m5⟩
      have e : m = n := by subst ht; rcases hd with rfl | rfl <;> omega
      subst e
      exact ⟨h2, m5, fun j g1 g2 => m3 j g1 (by omega)⟩
    · rintro ⟨h2, h5, h3⟩
      exact ⟨hc, h2, n, hn, ht, fun j g1 g2 => h3 j g1 (by omega), (sg_in t0 t1).trans h46, h5⟩
  have hcond : ((bt a (i : Int) == 84) != decide (d > 0)) = !decide (bt a (i : Int) = 84 ↔ d = 1) := by
    rcases hc with h | h <;> rcases hd with rfl | rfl <;> simp [h]
  rw [hbg]
  simp only [spec_ruCan.j1, spec_ruCan.j2, spec_ruCan.j3]
  rw [if_pos z1, if_pos z2, hcond, w1, loop]
  have hgt : ((n : Int) > 2) ↔ ¬ n ≤ 2 := by omega
  generalize allJ a o i d (n - 1) 1 = A
  by_cases q2 : n ≤ 2
  · rw [if_neg (fun h => hgt.1 h q2), decide_eq_true q2]
    cases decide (bt a (i : Int) = 84 ↔ d = 1) <;> cases b <;> cases l <;> cases A <;> rfl
  · rw [if_pos (hgt.2 q2), decide_eq_false q2]
    cases decide (bt a (i : Int) = 84 ↔ d = 1) <;> cases b <;> cases l <;> cases A <;> rfl
theorem bgo_in {a : ByteArray} (hs : a.size ≤ 100) {o b l : Bool} {i : Nat} (hi : i < a.size) {d : Int} (hd : d = 1 ∨ d = -1) {t : Int} (h : bgo a o b l i d = some t) : 0 ≤ t ∧ t < (a.size : Int) ∧ bt a t = 46 ∧ (bt a (i : Int) = 84 ∨ bt a (i : Int) = 70) ∧ (d = 1 → (i : Int) < t) ∧ (d = -1 → t < (i : Int)) := by
  obtain ⟨h1, _, m, m1, m2, _, m4, _⟩ := (bgo_iff a hs o b l i hi d hd t).1 h
  obtain ⟨g0, g1, g2⟩ := sg_is m4 (by decide)
  exact ⟨g0, g1, g2, h1, fun e => by subst e; omega, fun e => by subst e; omega⟩
theorem ruCan_eq (a : ByteArray) (hs1 : 1 ≤ a.size) (hs : a.size ≤ 10) (hl : a.data.toList.all sgn = true) (f t : Int) (o b l : Bool) (k : Nat) (hk : 120 ≤ k) : spec_ruCan.f k a f t o b l = some (bcan a o b l f t) := by
  obtain ⟨k, rfl⟩ : ∃ m, k = m + 1 := ⟨k - 1, by omega⟩
  unfold spec_ruCan.f
  have e : wrap64 ((a.size : Int) - 1) = (a.size : Int) - 1 := w64 (by omega) (by omega)
  rw [e, l1In_eq, l1In_eq]
  simp only [Option.bind_some, spec_ruCan.j0]
  by_cases hf : 0 ≤ f ∧ f ≤ (a.size : Int) - 1
  case neg =>
    unfold bcan
    rw [if_neg (by simp; omega), if_pos trivial, decide_eq_false (fun h => hf ⟨h.1, by omega⟩), Bool.false_and]
  obtain ⟨i, rfl⟩ : ∃ i : Nat, f = (i : Int) := ⟨f.toNat, by omega⟩
  have hi : i < a.size := by omega
  have f1 : (i : Int) < (a.size : Int) := by omega
  have hb : bcan a o b l (i : Int) t = (bgo a o b l i (-1) == some t || bgo a o b l i 1 == some t) := by
    unfold bcan
    rw [decide_eq_true (show 0 ≤ (i : Int) ∧ (i : Int) < (a.size : Int) from ⟨hf.1, f1⟩), Bool.true_and, Int.toNat_natCast]
  have no : ∀ (P : Prop), (0 ≤ t → t < (a.size : Int) → bt a t = 46 → (bt a (i : Int) = 84 ∨ bt a (i : Int) = 70) → False) → bcan a o b l (i : Int) t = false := by
    intro _ h
    rw [hb, Bool.or_eq_false_iff, beq_eq_false_iff_ne, beq_eq_false_iff_ne]
    refine ⟨fun h2 => ?_, fun h2 => ?_⟩
    · obtain ⟨g0, g1, g2, g3, _⟩ := bgo_in (by omega) hi (.inr rfl) h2
      exact h g0 g1 g2 g3
    · obtain ⟨g0, g1, g2, g3, _⟩ := bgo_in (by omega) hi (.inl rfl) h2
      exact h g0 g1 g2 g3
  rw [if_pos (by simp; omega)]
  by_cases ht : 0 ≤ t ∧ t ≤ (a.size : Int) - 1
  case neg =>
    rw [if_neg (by simp; omega), if_pos trivial, no True (fun g0 g1 _ _ => ht ⟨g0, by omega⟩)]
  have t1 : t < (a.size : Int) := by omega
  rw [if_pos (by simp; omega), if_pos hf.1, if_pos f1]
  by_cases q1 : bt a (i : Int) = 46
  · rw [if_pos q1, if_pos trivial, no True (fun _ _ _ g => by omega)]
  rw [if_neg q1, if_pos ht.1, if_pos t1]
  have hc : bt a (i : Int) = 84 ∨ bt a (i : Int) = 70 := by
    rcases sgn_three hl hf.1 f1 with h | h | h
    · exact .inl h
    · exact .inr h
    · exact absurd h q1
  by_cases q2 : bt a t = 46
  case neg =>
    rw [if_pos (by simpa using q2), no True (fun _ _ g _ => q2 g)]
  rw [if_neg (by simp [q2]), hb]
  have hne : t ≠ (i : Int) := fun h => by rw [h] at q2; exact q1 q2
  by_cases q3 : t < (i : Int)
  · rw [if_pos q3, ruCan_dir a (by omega) hl i hi hc (-1) (.inr rfl) (i - t.toNat) (by omega) t (by omega) ht.1 t1 q2 o b l k (by omega)]
    have : (bgo a o b l i 1 == some t) = false := by
      rw [beq_eq_false_iff_ne]
      intro h
      have := (bgo_in (by omega) hi (.inl rfl) h).2.2.2.2.1 rfl
      omega
    rw [this, Bool.or_false]
  · rw [if_neg q3, ruCan_dir a (by omega) hl i hi hc 1 (.inl rfl) (t.toNat - i) (by omega) t (by omega) ht.1 t1 q2 o b l k (by omega)]
    have : (bgo a o b l i (-1) == some t) = false := by
      rw [beq_eq_false_iff_ne]
      intro h
      have := (bgo_in (by omega) hi (.inr rfl) h).2.2.2.2.2 rfl
      omega
    rw [this, Bool.false_or]
end Go.Proofs.Ytpelhinjoambfaa.XP

namespace Go.Proofs.Ytpelhinjoambfaa.XP
set_option linter.unusedVariables false
set_option linter.unusedSimpArgs false
open Go Go.RowKit Go.Proofs.YtpelhinjoambfaaW.PrintWords Go.Proofs.YtpelhinjoambfaaB

def opt (i : Nat) (t : Option Int) : List S58 := match t with | some t => [⟨(i : Int), t⟩] | none => []
theorem opt_length (i : Nat) (t : Option Int) : (opt i t).length ≤ 1 := by unfold opt; split <;> simp
def bmove (a : ByteArray) (o b l : Bool) (i : Nat) : List S58 := opt i (bgo a o b l i (-1)) ++ opt i (bgo a o b l i 1)
theorem bmove_length (a : ByteArray) (o b l : Bool) (i : Nat) : (bmove a o b l i).length ≤ 2 := by
  have h1 := opt_length i (bgo a o b l i (-1))
  have h2 := opt_length i (bgo a o b l i 1)
  unfold bmove
  rw [List.length_append]
  omega
/-- the moves that a rule allows -/
def bmoves (a : ByteArray) (o b l : Bool) : List S58 := each (bmove a o b l) (min a.size 50) 0
theorem bmoves_length (a : ByteArray) (o b l : Bool) : (bmoves a o b l).length ≤ 100 := by
  have := each_length (bmove a o b l) 2 (bmove_length a o b l) (min a.size 50) 0
  unfold bmoves
  omega
theorem bmoves_mem (a : ByteArray) (hs : a.size ≤ 50) (o b l : Bool) (f t : Int) : (⟨f, t⟩ : S58) ∈ bmoves a o b l ↔ bcan a o b l f t = true := by
  unfold bmoves bcan
  rw [each_mem]
  simp only [Bool.and_eq_true, decide_eq_true_eq, Bool.or_eq_true, beq_iff_eq]
  have ho : ∀ (i : Nat) (x : Option Int), (⟨f, t⟩ : S58) ∈ opt i x ↔ f = (i : Int) ∧ x = some t := by
    intro i x
    unfold opt
    cases x with
    | none => simp
    | some y =>
      simp only [List.mem_singleton, S58.mk.injEq, Option.some.injEq]
      exact ⟨fun h => ⟨h.1, h.2.symm⟩, fun h => ⟨h.1, h.2.symm⟩⟩
  constructor
  · rintro ⟨j, _, h2, h3⟩
    unfold bmove at h3
    rw [List.mem_append, ho, ho] at h3
    rcases h3 with ⟨rfl, h⟩ | ⟨rfl, h⟩
    · exact ⟨⟨by omega, by omega⟩, .inl (by rw [Int.toNat_natCast]; exact h)⟩
    · exact ⟨⟨by omega, by omega⟩, .inr (by rw [Int.toNat_natCast]; exact h)⟩
  · rintro ⟨⟨h0, h1⟩, h2⟩
    refine ⟨f.toNat, by omega, by omega, ?_⟩
    unfold bmove
    rw [List.mem_append, ho, ho]
    rcases h2 with h2 | h2
    · exact .inl ⟨by omega, h2⟩
    · exact .inr ⟨by omega, h2⟩
theorem bmoves_can (a : ByteArray) (hs : a.size ≤ 50) (o b l : Bool) (f t : Int) : decide ((⟨f, t⟩ : S58) ∈ bmoves a o b l) = bcan a o b l f t := by
  rw [Bool.eq_iff_iff, decide_eq_true_iff]
  exact bmoves_mem a hs o b l f t
theorem bcan_in {a : ByteArray} (hs : a.size ≤ 100) {o b l : Bool} {f t : Int} (h : bcan a o b l f t = true) : 0 ≤ f ∧ f < (a.size : Int) ∧ 0 ≤ t ∧ t < (a.size : Int) ∧ f ≠ t := by
  unfold bcan at h
  simp only [Bool.and_eq_true, decide_eq_true_eq, Bool.or_eq_true, beq_iff_eq] at h
  obtain ⟨⟨f0, f1⟩, h⟩ := h
  rcases h with h | h
  · obtain ⟨g0, g1, _, _, _, g⟩ := bgo_in hs (by omega) (.inr rfl) h
    have := g rfl
    exact ⟨f0, f1, g0, g1, by omega⟩
  · obtain ⟨g0, g1, _, _, g, _⟩ := bgo_in hs (by omega) (.inl rfl) h
    have := g rfl
    exact ⟨f0, f1, g0, g1, by omega⟩
/-- one direction of the program's loop -/
theorem movesBy_dir (a : ByteArray) (hs : a.size ≤ 100) (i : Nat) (hi : i < a.size) (o b l : Bool) (q : Nat) (hq : q < 2) (d : Int) (hd : d = 1 ∨ d = -1) (hy : rd ([-1, 1] : List Int) (q : Int) = d) (acc : List S58) (ha : acc.length ≤ 1000) (k : Nat) (hk : 300 ≤ k) (R : List S58)
    (H : ∀ acc' k', acc'.length ≤ acc.length + 1 → k ≤ k' + 2 → k' ≤ k → impl_movesBy.l1 k' a acc' (i : Int) (a.size : Int) (i : Int) [-1, 1] 2 ((q + 1 : Nat) : Int) o b l = some (acc' ++ R)) :
    impl_movesBy.l1 k a acc (i : Int) (a.size : Int) (i : Int) [-1, 1] 2 (q : Int) o b l = some (acc ++ (opt i (bgo a o b l i d) ++ R)) := by
  obtain ⟨k, rfl⟩ : ∃ m, k = m + 2 := ⟨k - 2, by omega⟩
  have z1 : (q : Int) < 2 := by omega
  have z2 : (0 : Int) ≤ (q : Int) := by omega
  have z3 : (0 : Int) ≤ (i : Int) := by omega
  have z4 : (i : Int) < (a.size : Int) := by omega
  have z5 : acc.length < 8796093022208 := by omega
  have w : wrap64 ((q : Int) + 1) = ((q + 1 : Nat) : Int) := by rw [w64 (by omega) (by omega)]; rfl
  have skip := H acc k (by omega) (by omega) (by omega)
  have add := fun t : Int => H (acc ++ [⟨(i : Int), t⟩]) k (by rw [List.length_append]; simp) (by omega) (by omega)
  have none_ : bgo a o b l i d = none → some (acc ++ R) = some (acc ++ (opt i (bgo a o b l i d) ++ R)) := fun h => by rw [h]; rfl
  simp only [impl_movesBy.l1, impl_movesBy.j2]
  rw [if_pos z1, if_pos z2, if_pos (show (q : Int) < (([-1, 1] : List Int).length : Int) from z1), if_pos z3, if_pos z4, hy, w, skip]
  unfold impl_stepOf.f
  by_cases hc : bt a (i : Int) = 84 ∨ bt a (i : Int) = 70
  case neg =>
    rw [if_neg (fun h => hc (.inl h)), if_neg (fun h => hc (.inr h))]
    simp only [Option.bind_some, if_true]
    exact none_ (by unfold bgo; rw [if_neg (fun h => hc h.1)])
  obtain ⟨M, h1, h2, h3, h4, h5⟩ := goalBy_eq a hs i hi hc d hd o b l
  have main : ((impl_goalBy.f k a (i : Int) d o b l).bind fun bt277 => (if bt277.2 = true then (if acc.length < 8796093022208 then (impl_movesBy.l1 k a (acc ++ [(⟨(i : Int), bt277.1⟩ : S58)]) (i : Int) (a.size : Int) (i : Int) [-1, 1] 2 ((q + 1 : Nat) : Int) o b l) else (none)) else some (acc ++ R))) = some (acc ++ ((match impl_goalBy.f 200 a (i : Int) d o b l with | some (t, true) => opt i (some t) | _ => []) ++ R)) := by
    rw [h5 k (by omega), h5 200 (by omega)]
    simp only [Option.bind_some]
    by_cases q1 : sg a ((i : Int) + d * (M : Int)) = 46 ∧ (M ≤ 2 ∨ l = true)
    · rw [decide_eq_true q1, if_pos rfl, if_pos z5, add, List.append_assoc]
      rfl
    · rw [decide_eq_false q1, if_neg (by decide)]
      rfl
  have yes : ((bt a (i : Int) = 84 ↔ d = 1) ∨ b = true) → some (acc ++ ((match impl_goalBy.f 200 a (i : Int) d o b l with | some (t, true) => opt i (some t) | _ => []) ++ R)) = some (acc ++ (opt i (bgo a o b l i d) ++ R)) := by
    intro h
    unfold bgo
    rw [if_pos ⟨hc, h⟩, h5 200 (by omega)]
    cases decide (sg a ((i : Int) + d * (M : Int)) = 46 ∧ (M ≤ 2 ∨ l = true)) <;> rfl
  have hne : ¬ ((bt a (i : Int) = 84 ↔ d = 1) ∨ b = true) → bgo a o b l i d = none := fun h => by unfold bgo; rw [if_neg (fun h2 => h h2.2)]
  by_cases c84 : bt a (i : Int) = 84
  · rw [if_pos c84]
    simp only [Option.bind_some]
    rw [if_neg (by decide)]
    rcases hd with rfl | rfl
    · rw [if_pos rfl, if_neg (by decide), main, yes (.inl (by simp [c84]))]
    · rw [if_neg (by decide)]
      cases b with
      | true => rw [if_neg (by decide), main, yes (.inr rfl)]
      | false => rw [if_pos (show (!false) = true from rfl), none_ (hne (by simp [c84]))]
  · rw [if_neg c84, if_pos (hc.resolve_left c84)]
    simp only [Option.bind_some]
    rw [if_neg (by decide)]
    rcases hd with rfl | rfl
    · rw [if_neg (by decide)]
      cases b with
      | true => rw [if_neg (by decide), main, yes (.inr rfl)]
      | false => rw [if_pos (show (!false) = true from rfl), none_ (hne (by simp [c84]))]
    · rw [if_pos rfl, if_neg (by decide), main, yes (.inl (by simp [c84]))]
theorem movesBy_l0 (a : ByteArray) (hs : a.size ≤ 50) (o b l : Bool) : ∀ (d i : Nat) (acc : List S58) (k : Nat), i + d = a.size → acc.length + 2 * d ≤ 200 → d * 10 + 400 ≤ k → impl_movesBy.l0 k a acc (a.size : Int) (i : Int) o b l = some (acc ++ each (bmove a o b l) d i) := by
  intro d
  induction d with
  | zero =>
    intro i acc k hi ha hk
    obtain ⟨k, rfl⟩ : ∃ m, k = m + 1 := ⟨k - 1, by omega⟩
    simp only [impl_movesBy.l0]
    rw [if_neg (by omega), each, List.append_nil]
  | succ d ih =>
    intro i acc k hi ha hk
    obtain ⟨k, rfl⟩ : ∃ m, k = m + 1 := ⟨k - 1, by omega⟩
    simp only [impl_movesBy.l0]
    rw [if_pos (by omega)]
    simp only [Option.bind_some]
    rw [each, bmove, List.append_assoc]
    refine movesBy_dir a (by omega) i (by omega) o b l 0 (by omega) (-1) (.inr rfl) rfl acc (by omega) k (by omega) _ fun acc1 k1 h1 h2 h3 => ?_
    refine movesBy_dir a (by omega) i (by omega) o b l 1 (by omega) 1 (.inl rfl) rfl acc1 (by omega) k1 (by omega) _ fun acc2 k2 g1 g2 g3 => ?_
    obtain ⟨k2, rfl⟩ : ∃ m, k2 = m + 1 := ⟨k2 - 1, by omega⟩
    have w : wrap64 ((i : Int) + 1) = ((i + 1 : Nat) : Int) := by rw [w64 (by omega) (by omega)]; rfl
    simp only [impl_movesBy.l1]
    rw [if_neg (by decide), w]
    exact ih (i + 1) acc2 k2 (by omega) (by omega) (by omega)
theorem movesBy_eq (a : ByteArray) (hs1 : 1 ≤ a.size) (hs : a.size ≤ 10) (hl : a.data.toList.all sgn = true) (o b l : Bool) (k : Nat) (hk : 1000 ≤ k) : impl_movesBy.f k a o b l = some (bmoves a o b l) := by
  have h := movesBy_l0 a (by omega) o b l a.size 0 [] k (by omega) (by simp; omega) (by omega)
  unfold impl_movesBy.f bmoves
  rw [show min a.size 50 = a.size from by omega]
  exact h
theorem collect_bmove (a : ByteArray) (hs : a.size ≤ 100) (o b l : Bool) (i : Nat) (hi : i < a.size) : collect (bcan a o b l (i : Int)) (i : Int) a.size 0 = bmove a o b l i := by
  have f1 : 0 ≤ (i : Int) ∧ (i : Int) < (a.size : Int) := by omega
  have hb : ∀ t, bcan a o b l (i : Int) t = (bgo a o b l i (-1) == some t || bgo a o b l i 1 == some t) := fun t => by
    unfold bcan
    rw [decide_eq_true f1, Bool.true_and, Int.toNat_natCast]
  obtain ⟨e, he⟩ : ∃ e, a.size = i + e := ⟨a.size - i, by omega⟩
  rw [he, collect_split, Nat.zero_add]
  unfold bmove
  congr 1
  · have hno : ∀ t : Nat, t < i → (bgo a o b l i 1 == some (t : Int)) = false := fun t ht => by
      rw [beq_eq_false_iff_ne]
      intro h
      have := (bgo_in hs hi (.inl rfl) h).2.2.2.2.1 rfl
      omega
    cases hg : bgo a o b l i (-1) with
    | none => exact collect_none _ _ _ _ (fun t _ h => by rw [hb, hg, hno t (by omega)]; rfl)
    | some g =>
      obtain ⟨g0, g1, _, _, _, g2⟩ := bgo_in hs hi (.inr rfl) hg
      have g2 := g2 rfl
      obtain ⟨m, rfl⟩ : ∃ m : Nat, g = (m : Int) := ⟨g.toNat, by omega⟩
      refine collect_one _ _ _ _ m (by omega) (by omega) (fun t _ h => ?_)
      rw [hb, hg, hno t (by omega), Bool.or_false, beq_iff_eq, Option.some.injEq]
      omega
  · have hno : ∀ t : Nat, i ≤ t → (bgo a o b l i (-1) == some (t : Int)) = false := fun t ht => by
      rw [beq_eq_false_iff_ne]
      intro h
      have := (bgo_in hs hi (.inr rfl) h).2.2.2.2.2 rfl
      omega
    cases hg : bgo a o b l i 1 with
    | none => exact collect_none _ _ _ _ (fun t h _ => by rw [hb, hg, hno t (by omega)]; rfl)
    | some g =>
      obtain ⟨g0, g1, _, _, g2, _⟩ := bgo_in hs hi (.inl rfl) hg
      have g2 := g2 rfl
      obtain ⟨m, rfl⟩ : ∃ m : Nat, g = (m : Int) := ⟨g.toNat, by omega⟩
      refine collect_one _ _ _ _ m (by omega) (by omega) (fun t h _ => ?_)
      rw [hb, hg, hno t (by omega), Bool.false_or, beq_iff_eq, Option.some.injEq]
      omega
end Go.Proofs.Ytpelhinjoambfaa.XP

namespace Go.Proofs.Ytpelhinjoambfaa.XP
set_option linter.unusedVariables false
set_option linter.unusedSimpArgs false
open Go Go.RowKit Go.Proofs.YtpelhinjoambfaaW.PrintWords Go.Proofs.YtpelhinjoambfaaB

theorem bt_lt' {a : ByteArray} (h : a.data.toList.all sgn = true) {i : Nat} (hi : i < a.size) : bt a (i : Int) < 128 := by
  rcases sgn_three h (i := (i : Int)) (by omega) (by omega) with h | h | h <;> omega
theorem ruMoves_l1 (a : ByteArray) (hs1 : 1 ≤ a.size) (hs : a.size ≤ 10) (hl : a.data.toList.all sgn = true) (o b l : Bool) (i : Nat) (R : List S58) (K M : Nat)
    (H : ∀ (acc : List S58) (k : Nat), acc.length + M ≤ 200 → K ≤ k → spec_ruMoves.l0 k a acc o b l ((i + 1 : Nat) : Int) a = some (acc ++ R)) :
    ∀ (e j k : Nat) (acc : List S58), j + e = a.size → e + K + 130 ≤ k → acc.length + e + M ≤ 200 → spec_ruMoves.l1 k a acc (i : Int) o b l ((i + 1 : Nat) : Int) a (j : Int) a = some (acc ++ (collect (bcan a o b l (i : Int)) (i : Int) e j ++ R)) := by
  intro e
  induction e with
  | zero =>
    intro j k acc hj hk hle
    obtain ⟨k, rfl⟩ : ∃ m, k = m + 1 := ⟨k - 1, by omega⟩
    simp only [spec_ruMoves.l1]
    rw [if_pos (by omega), if_neg (by omega), H acc k (by omega) (by omega), collect, List.nil_append]
  | succ e ih =>
    intro j k acc hj hk hle
    obtain ⟨k, rfl⟩ : ∃ m, k = m + 1 := ⟨k - 1, by omega⟩
    simp only [spec_ruMoves.l1]
    have w : ((j : Int) + 1) = ((j + 1 : Nat) : Int) := rfl
    have z : acc.length < 8796093022208 := by omega
    have t1 := ih (j + 1) k acc (by omega) (by omega) (by omega)
    have t2 := ih (j + 1) k (acc ++ [⟨(i : Int), (j : Int)⟩]) (by omega) (by omega) (by rw [List.length_append, List.length_singleton]; omega)
    rw [if_pos (by omega), if_pos (by omega), if_pos (bt_lt' hl (by omega)), ruCan_eq a hs1 hs hl _ _ o b l k (by omega), w, collect]
    simp only [Option.bind_some]
    by_cases h : bcan a o b l (i : Int) (j : Int) = true
    · rw [if_pos h, if_pos h, if_pos z, t2, List.append_assoc, List.append_assoc]
    · rw [if_neg h, if_neg h, t1, List.nil_append]
theorem ruMoves_l0 (a : ByteArray) (hs1 : 1 ≤ a.size) (hs : a.size ≤ 10) (hl : a.data.toList.all sgn = true) (o b l : Bool) : ∀ (d i : Nat), i + d = a.size → ∀ (acc : List S58) (k : Nat), acc.length + d * 10 ≤ 200 → d * 150 + 150 ≤ k →
    spec_ruMoves.l0 k a acc o b l (i : Int) a = some (acc ++ each (fun j => collect (bcan a o b l (j : Int)) (j : Int) a.size 0) d i) := by
  intro d
  induction d with
  | zero =>
    intro i hi acc k hle hk
    obtain ⟨k, rfl⟩ : ∃ m, k = m + 1 := ⟨k - 1, by omega⟩
    simp only [spec_ruMoves.l0]
    rw [if_pos (by omega), if_neg (by omega), each, List.append_nil]
  | succ d ih =>
    intro i hi acc k hle hk
    obtain ⟨k, rfl⟩ : ∃ m, k = m + 1 := ⟨k - 1, by omega⟩
    simp only [spec_ruMoves.l0]
    have H : ∀ (l' : List S58) (k : Nat), l'.length + d * 10 ≤ 200 → d * 150 + 150 ≤ k → spec_ruMoves.l0 k a l' o b l ((i + 1 : Nat) : Int) a = some (l' ++ each (fun j => collect (bcan a o b l (j : Int)) (j : Int) a.size 0) d (i + 1)) := ih (i + 1) (by omega)
    have w : ((i : Int) + 1) = ((i + 1 : Nat) : Int) := rfl
    rw [if_pos (by omega), if_pos (by omega), if_pos (bt_lt' hl (by omega)), w, each]
    exact ruMoves_l1 a hs1 hs hl o b l i _ (d * 150 + 150) (d * 10) H a.size 0 k acc (by omega) (by omega) (by omega)
theorem ruMoves_eq (a : ByteArray) (hs1 : 1 ≤ a.size) (hs : a.size ≤ 10) (hl : a.data.toList.all sgn = true) (o b l : Bool) (k : Nat) (hk : 1700 ≤ k) : spec_ruMoves.f k a o b l = some (bmoves a o b l) := by
  unfold spec_ruMoves.f bmoves
  have h := ruMoves_l0 a hs1 hs hl o b l a.size 0 (by omega) [] k (by simp; omega) (by omega)
  rw [each_congr _ (bmove a o b l) a.size 0 (fun j _ h => collect_bmove a (by omega) o b l j (by omega)), List.nil_append] at h
  rw [show min a.size 50 = a.size from by omega]
  exact h
end Go.Proofs.Ytpelhinjoambfaa.XP

namespace Go.Proofs.Ytpelhinjoambfaa.XP
set_option linter.unusedVariables false
set_option linter.unusedSimpArgs false
open Go Go.RowKit Go.Proofs.YtpelhinjoambfaaW.PrintWords Go.Proofs.YtpelhinjoambfaaB

theorem ba_eq {x y : ByteArray} (h : x.data.toList = y.data.toList) : x = y := by rw [← Lib.mk_data x, ← Lib.mk_data y, h]
theorem list_extract (a : ByteArray) (i j : Nat) : (a.extract i j).data.toList = (a.data.toList.drop i).take (j - i) := by
  simp
theorem list_append (x y : ByteArray) : (x ++ y).data.toList = x.data.toList ++ y.data.toList := by simp
/-- the text with the sign of one place moved to another -/
def mv (a : ByteArray) (f t : Int) : ByteArray := ⟨((a.data.toList.set t.toNat (a.data.toList.getD f.toNat 0)).set f.toNat 46).toArray⟩
theorem mv_size (a : ByteArray) (f t : Int) : (mv a f t).size = a.size := by
  unfold mv ByteArray.size
  simp
theorem liPut_eq (a : ByteArray) (hs : a.size ≤ 1000) (i : Nat) (hi : i < a.size) (c : UInt8) : spec_liPut.f a (i : Int) ⟨#[c]⟩ = some ⟨(a.data.toList.set i c).toArray⟩ := by
  unfold spec_liPut.f
  rw [w64_succ (n := a.size) hi (by omega), Int.toNat_natCast, Int.toNat_natCast]
  have s1 : (a.extract 0 i).size = i := by rw [ByteArray.size_extract]; omega
  have s2 : (⟨#[c]⟩ : ByteArray).size = 1 := rfl
  have s3 : (a.extract (i + 1) a.size).size = a.size - (i + 1) := by rw [ByteArray.size_extract]; omega
  rw [if_pos (by omega), if_pos (by omega), if_pos (by rw [s1, s2]; omega), if_pos (by omega), if_pos (by omega), if_pos (by rw [ByteArray.size_append, s1, s2, s3]; omega)]
  congr 1
  apply ba_eq
  have hl : i < a.data.toList.length := by rw [data_length]; exact hi
  rw [list_append, list_append, list_extract, list_extract, List.set_eq_take_append_cons_drop, if_pos hl, List.take_of_length_le (l := List.drop (i + 1) a.data.toList) (by rw [List.length_drop, data_length]; exact Nat.le_refl _)]
  simp
theorem extract_one (a : ByteArray) (i : Nat) (hi : i < a.size) : a.extract i (i + 1) = ⟨#[a.data.toList.getD i 0]⟩ := by
  apply ba_eq
  have hl : i < a.data.toList.length := by rw [data_length]; exact hi
  rw [list_extract, List.drop_eq_getElem_cons hl, show i + 1 - i = 1 from by omega, List.getD_eq_getElem?_getD, List.getElem?_eq_getElem hl]
  rfl
theorem liMake_eq (a : ByteArray) (hs : a.size ≤ 1000) (f t : Int) (f0 : 0 ≤ f) (f1 : f < (a.size : Int)) (t0 : 0 ≤ t) (t1 : t < (a.size : Int)) (ne : f ≠ t) : spec_liMake.f a f t = some (mv a f t) := by
  obtain ⟨i, rfl⟩ : ∃ i : Nat, f = (i : Int) := ⟨f.toNat, by omega⟩
  obtain ⟨j, rfl⟩ : ∃ j : Nat, t = (j : Int) := ⟨t.toNat, by omega⟩
  unfold spec_liMake.f mv
  rw [w64_succ (n := a.size) (by omega) (by omega), Int.toNat_natCast, Int.toNat_natCast, Int.toNat_natCast, if_pos (by omega), if_pos (by omega), if_pos (by omega), liPut_eq a hs i (by omega) 46, extract_one a i (by omega)]
  simp only [Option.bind_some]
  have e : (⟨(a.data.toList.set i 46).toArray⟩ : ByteArray).size = a.size := by unfold ByteArray.size; simp
  rw [liPut_eq _ (by omega) j (by omega)]
  simp only [Option.bind_some]
  congr 2
  rw [List.set_comm _ _ (show j ≠ i from by omega)]
theorem impl_made_eq (a : ByteArray) (hs : a.size ≤ 1000) (f t : Int) (f0 : 0 ≤ f) (f1 : f < (a.size : Int)) (t0 : 0 ≤ t) (t1 : t < (a.size : Int)) (ne : f ≠ t) : impl_made.f a f t = some (mv a f t) :=
  if_pos ⟨by omega, f0, f1, t0, t1, ne⟩
end Go.Proofs.Ytpelhinjoambfaa.XP

namespace Go.Proofs.Ytpelhinjoambfaa.XP
set_option linter.unusedVariables false
set_option linter.unusedSimpArgs false
open Go Go.RowKit Go.Proofs.YtpelhinjoambfaaW.PrintWords Go.Proofs.YtpelhinjoambfaaB
theorem mv_count (a : ByteArray) (f t : Int) (f0 : 0 ≤ f) (f1 : f < (a.size : Int)) (t0 : 0 ≤ t) (t1 : t < (a.size : Int)) (ne : f ≠ t) (h46 : bt a t = 46) (c : UInt8) : (mv a f t).data.toList.count c = a.data.toList.count c := by
  obtain ⟨i, rfl⟩ : ∃ i : Nat, f = (i : Int) := ⟨f.toNat, by omega⟩
  obtain ⟨j, rfl⟩ : ∃ j : Nat, t = (j : Int) := ⟨t.toNat, by omega⟩
  have hi : i < a.data.toList.length := by rw [data_length]; omega
  have hj : j < a.data.toList.length := by rw [data_length]; omega
  have hij : i ≠ j := by omega
  obtain ⟨x, hd, hb⟩ := bt_eq a j (by omega)
  rw [hb, is46] at h46
  subst h46
  have hlj : a.data.toList[j] = 46 := by
    rw [List.drop_eq_getElem_cons hj] at hd
    injection hd
  unfold mv
  simp only [Int.toNat_natCast]
  show List.count c ((a.data.toList.set j (a.data.toList.getD i 0)).set i 46) = _
  rw [List.getD_eq_getElem?_getD, List.getElem?_eq_getElem hi]
  simp only [Option.getD_some]
  rw [List.count_set (h := by rw [List.length_set]; exact hi), List.count_set (h := hj), List.getElem_set, if_neg (show ¬ j = i by omega), hlj]
  have p1 : (46 == c) = true → 1 ≤ a.data.toList.count c := fun h => by
    have : (46 : UInt8) = c := by simpa using h
    subst this
    exact List.one_le_count_iff.2 (hlj ▸ List.getElem_mem hj)
  have p2 : (a.data.toList[i] == c) = true → 1 ≤ a.data.toList.count c := fun h => by
    have : a.data.toList[i] = c := by simpa using h
    exact List.one_le_count_iff.2 (this ▸ List.getElem_mem hi)
  revert p1 p2
  generalize (46 == c) = b1
  generalize (a.data.toList[i] == c) = b2
  generalize List.count c a.data.toList = n
  intro p1 p2
  cases b1 <;> cases b2 <;> simp_all <;> omega
end Go.Proofs.Ytpelhinjoambfaa.XP

namespace Go.Proofs.Ytpelhinjoambfaa.XP
set_option linter.unusedVariables false
set_option linter.unusedSimpArgs false
open Go Go.RowKit Go.Proofs.YtpelhinjoambfaaW.PrintWords Go.Proofs.YtpelhinjoambfaaB
theorem in_eq3 (a b c : Int) : spec_l1In.f a b c = some (decide (b ≤ a ∧ a ≤ c)) := by
  unfold spec_l1In.f
  by_cases h : b ≤ a <;> simp [h]
theorem within_eq3 (a b c : Int) : impl_within.f a b c = some (decide (b ≤ a ∧ a ≤ c)) := by
  unfold impl_within.f
  by_cases h : b ≤ a <;> simp [h]
theorem all_eq3 (x y z lo hi : Int) : spec_l1All.f 20 [x, y, z] lo hi = some (decide (lo ≤ x ∧ x ≤ hi) && (decide (lo ≤ y ∧ y ≤ hi) && decide (lo ≤ z ∧ z ≤ hi))) := by
  unfold spec_l1All.f
  simp only [spec_l1All.l0, in_eq3, Option.bind_some, show (([x, y, z] : List Int).length : Int) = 3 from rfl, show wrap64 (0 + 1) = 1 from by decide +kernel, show wrap64 (1 + 1) = 2 from by decide +kernel, show wrap64 (2 + 1) = 3 from by decide +kernel, show rd ([x, y, z] : List Int) 0 = x from rfl, show rd ([x, y, z] : List Int) 1 = y from rfl, show rd ([x, y, z] : List Int) 2 = z from rfl]
  generalize decide (lo ≤ x ∧ x ≤ hi) = p
  generalize decide (lo ≤ y ∧ y ≤ hi) = q
  generalize decide (lo ≤ z ∧ z ≤ hi) = r
  cases p <;> cases q <;> cases r <;> rfl
def threeB (m x y z : Int) : Bool := decide (0 ≤ x ∧ x ≤ m) && (decide (0 ≤ y ∧ y ≤ m) && (decide (0 ≤ z ∧ z ≤ m) && decide (1 ≤ wrap64 (wrap64 (x + y) + z) ∧ wrap64 (wrap64 (x + y) + z) ≤ m)))
theorem threeB_is {m x y z : Int} (hm : m ≤ 1000) (h : threeB m x y z = true) : ∃ t g f : Nat, x = (t : Int) ∧ y = (g : Int) ∧ z = (f : Int) ∧ 1 ≤ t + g + f ∧ (t + g + f : Int) ≤ m := by
  unfold threeB at h
  simp only [Bool.and_eq_true, decide_eq_true_eq] at h
  obtain ⟨h1, h2, h3, h4⟩ := h
  have hw : wrap64 (wrap64 (x + y) + z) = x + y + z := by unfold wrap64; omega
  rw [hw] at h4
  exact ⟨x.toNat, y.toNat, z.toNat, by omega, by omega, by omega, by omega, by omega⟩
theorem impl_three3 (x y z m : Int) : impl_areCounts.f x y z m = some (threeB m x y z) := by
  unfold impl_areCounts.f threeB
  simp only [Option.bind_some, within_eq3]
  generalize decide (0 ≤ x ∧ x ≤ m) = p
  generalize decide (0 ≤ y ∧ y ≤ m) = q
  generalize decide (0 ≤ z ∧ z ≤ m) = r
  cases p <;> cases q <;> cases r <;> rfl
end Go.Proofs.Ytpelhinjoambfaa.XP

namespace Go.Proofs.Ytpelhinjoambfaa.XP
set_option linter.unusedVariables false
set_option linter.unusedSimpArgs false
open Go Go.RowKit Go.Proofs.YtpelhinjoambfaaW.PrintWords Go.Proofs.YtpelhinjoambfaaB
theorem spec_three3 (x y z : Int) (k : Nat) (hk : 20 ≤ k) : spec_liThree.f k x y z = some (threeB 12 x y z) := by
  refine at_rounds (spec_liThree.mono x y z) hk ?_
  unfold spec_liThree.f threeB
  rw [all_eq3]
  simp only [Option.bind_some, in_eq3]
  generalize decide (0 ≤ x ∧ x ≤ 12) = p
  generalize decide (0 ≤ y ∧ y ≤ 12) = q
  generalize decide (0 ≤ z ∧ z ≤ 12) = r
  cases p <;> cases q <;> cases r <;> rfl
end Go.Proofs.Ytpelhinjoambfaa.XP

namespace Go.Proofs.Ytpelhinjoambfaa.XP
set_option linter.unusedVariables false
set_option linter.unusedSimpArgs false
open Go Go.RowKit Go.Proofs.YtpelhinjoambfaaW.PrintWords Go.Proofs.YtpelhinjoambfaaB Go.Proofs.Ytpelhinjoambfaa.Ranks
theorem many_table : ∀ a, a < 13 → ∀ b, b < 13 - a → ∀ c, c < 13 - a - b → (spec_liMany.f 40 ((a : Nat) : Int) ((b : Nat) : Int) ((c : Nat) : Int) == some ((M a b c : Nat) : Int)) = true := by decide +kernel
theorem many_eq (t g f : Nat) (h : t + g + f ≤ 12) (k : Nat) (hk : 40 ≤ k) : spec_liMany.f k (t : Int) (g : Int) (f : Int) = some ((M t g f : Nat) : Int) :=
  at_rounds (spec_liMany.mono _ _ _) hk (eq_of_beq (many_table t (by omega) g (by omega) f (by omega)))
theorem many_none (t g f : Int) (h : t < 0 ∨ g < 0 ∨ f < 0) (k : Nat) (hk : 1 ≤ k) : spec_liMany.f k t g f = some 0 := by
  obtain ⟨k, rfl⟩ : ∃ m, k = m + 1 := ⟨k - 1, by omega⟩
  unfold spec_liMany.f
  simp only [spec_liMany.j0]
  by_cases h1 : t < 0
  · rw [if_pos h1]
    simp
  · rw [if_neg h1]
    by_cases h2 : g < 0
    · rw [if_pos h2]
      simp
    · rw [if_neg h2, if_pos (by simp; omega)]
theorem many_GG (t g f : Nat) (h : t + g + f ≤ 12) (k : Nat) (hk : 40 ≤ k) : spec_liMany.f k (t : Int) ((g : Int) - 1) (f : Int) = some ((GG t g f : Nat) : Int) := by
  unfold GG
  by_cases hg : g = 0
  · subst hg
    rw [if_pos rfl]
    exact many_none _ _ _ (by omega) k (by omega)
  · rw [if_neg hg, show (g : Int) - 1 = ((g - 1 : Nat) : Int) from by omega]
    exact many_eq t (g - 1) f (by omega) k hk
theorem many_FF (t g f : Nat) (h : t + g + f ≤ 12) (k : Nat) (hk : 40 ≤ k) : spec_liMany.f k (t : Int) (g : Int) ((f : Int) - 1) = some ((FF t g f : Nat) : Int) := by
  unfold FF
  by_cases hg : f = 0
  · subst hg
    rw [if_pos rfl]
    exact many_none _ _ _ (by omega) k (by omega)
  · rw [if_neg hg, show (f : Int) - 1 = ((f - 1 : Nat) : Int) from by omega]
    exact many_eq t g (f - 1) (by omega) k hk
theorem w_sum3 (t g f : Nat) (h : t + g + f ≤ 1000) : wrap64 (wrap64 ((t : Int) + g) + f) = (t : Int) + g + f := by unfold wrap64; omega
theorem w_sum2 (a b : Nat) (h1 : a < 1000000) (h2 : b < 1000000) : wrap64 ((a : Int) + (b : Int)) = ((a + b : Nat) : Int) := by unfold wrap64; omega
theorem w_pred (a : Nat) (h : a ≤ 1000000) : wrap64 ((a : Int) - 1) = (a : Int) - 1 := by unfold wrap64; omega
theorem w_sub (a b : Nat) (h : b ≤ a) (h2 : a ≤ 10000000) : wrap64 ((a : Int) - (b : Int)) = ((a - b : Nat) : Int) := by unfold wrap64; omega
end Go.Proofs.Ytpelhinjoambfaa.XP

namespace Go.Proofs.Ytpelhinjoambfaa.XP
set_option linter.unusedVariables false
set_option linter.unusedSimpArgs false
open Go Go.RowKit Go.Proofs.YtpelhinjoambfaaW.PrintWords Go.Proofs.YtpelhinjoambfaaB Go.Proofs.Ytpelhinjoambfaa.Ranks
theorem lor_snoc (l : List UInt8) (c : UInt8) : (⟨l.toArray⟩ : ByteArray) ++ (⟨#[c]⟩ : ByteArray) = ⟨(l ++ [c]).toArray⟩ := by
  rw [← Lib.mk_data ((⟨l.toArray⟩ : ByteArray) ++ (⟨#[c]⟩ : ByteArray))]
  simp
theorem lor_size (l : List UInt8) : (⟨l.toArray⟩ : ByteArray).size = l.length := by simp [ByteArray.size]
theorem lor_l0 : ∀ (n t g f r k : Nat) (pre : List UInt8), n = t + g + f → n ≤ 12 → r < M t g f → pre.length + n ≤ 100 → n + 50 ≤ k →
    spec_LineOfRank.l0 k (t : Int) (g : Int) (f : Int) (r : Int) ⟨pre.toArray⟩ = some (⟨(pre ++ unrank n t g f r).toArray⟩, true) := by
  intro n
  induction n with
  | zero =>
    intro t g f r k pre hn _ _ _ hk
    obtain ⟨k, rfl⟩ : ∃ m, k = m + 1 := ⟨k - 1, by omega⟩
    obtain rfl : t = 0 := by omega
    obtain rfl : g = 0 := by omega
    obtain rfl : f = 0 := by omega
    simp only [spec_LineOfRank.l0]
    rw [if_neg (by decide +kernel), unrank, List.append_nil]
  | succ n ih =>
    intro t g f r k pre hn h12 hr hp hk
    obtain ⟨k, rfl⟩ : ∃ m, k = m + 1 := ⟨k - 1, by omega⟩
    have hrec := M_rec (t := t) (g := g) (f := f) (by omega) (by omega)
    have b1 := GG_le (t := t) (g := g) (f := f) (by omega)
    have b2 := FF_le (t := t) (g := g) (f := f) (by omega)
    have b3 := TT_le (t := t) (g := g) (f := f) (by omega)
    have z0 : (t : Int) + g + f > 0 := by omega
    have hsz : (⟨pre.toArray⟩ : ByteArray).size + 1 ≤ 9223372036854775807 := by rw [lor_size]; omega
    have g1 := many_GG t g f (by omega) k (by omega)
    have g2 := many_FF t g f (by omega) k (by omega)
    simp only [spec_LineOfRank.l0]
    rw [w_sum3 t g f (by omega), if_pos z0, w_pred g (by omega), w_pred f (by omega), w_pred t (by omega), g1, g2]
    simp only [Option.bind_some]
    rw [w_sum2 _ _ b1 b2, if_pos hsz, if_pos hsz, if_pos hsz, lor_snoc, lor_snoc, lor_snoc]
    conv => rhs; unfold unrank
    by_cases h1 : r < GG t g f
    · have hg : g ≠ 0 := by rintro rfl; simp [GG] at h1
      have e : GG t g f = M t (g - 1) f := by unfold GG; rw [if_neg hg]
      rw [if_pos (by omega), if_pos h1, show (g : Int) - 1 = ((g - 1 : Nat) : Int) from by omega, ih t (g - 1) f r k (pre ++ [46]) (by omega) (by omega) (by omega) (by simp; omega) (by omega), List.append_assoc]
      rfl
    · rw [if_neg (show ¬ (r : Int) < ((GG t g f : Nat) : Int) by omega), if_neg h1]
      by_cases h2 : r < GG t g f + FF t g f
      · have hf : f ≠ 0 := by rintro rfl; simp [FF] at h2; omega
        have e : FF t g f = M t g (f - 1) := by unfold FF; rw [if_neg hf]
        rw [if_pos (show (r : Int) < ((GG t g f + FF t g f : Nat) : Int) by omega), if_pos h2, w_sub r (GG t g f) (by omega) (by omega), show (f : Int) - 1 = ((f - 1 : Nat) : Int) from by omega, ih t g (f - 1) (r - GG t g f) k (pre ++ [70]) (by omega) (by omega) (by omega) (by simp; omega) (by omega), List.append_assoc]
        rfl
      · have ht : t ≠ 0 := by rintro rfl; simp [TT] at hrec; omega
        have e : TT t g f = M (t - 1) g f := by unfold TT; rw [if_neg ht]
        rw [if_neg (show ¬ (r : Int) < ((GG t g f + FF t g f : Nat) : Int) by omega), if_neg h2, w_sub r (GG t g f + FF t g f) (by omega) (by omega), Nat.sub_sub, show (t : Int) - 1 = ((t - 1 : Nat) : Int) from by omega, ih (t - 1) g f (r - (GG t g f + FF t g f)) k (pre ++ [84]) (by omega) (by omega) (by omega) (by simp; omega) (by omega), List.append_assoc]
        rfl
/-- what both answer -/
def lorA (x y z r : Int) : ByteArray × Bool :=
  if threeB 12 x y z = true ∧ 0 ≤ r ∧ r < ((M x.toNat y.toNat z.toNat : Nat) : Int) then (⟨(unrank (x.toNat + y.toNat + z.toNat) x.toNat y.toNat z.toNat r.toNat).toArray⟩, true) else (⟨#[]⟩, false)
theorem spec_lor (x y z r : Int) (k : Nat) (hk : 70 ≤ k) : spec_LineOfRank.f k x y z r = some (lorA x y z r) := by
  obtain ⟨k, rfl⟩ : ∃ m, k = m + 1 := ⟨k - 1, by omega⟩
  unfold spec_LineOfRank.f lorA
  rw [spec_three3 x y z (k + 1) (by omega)]
  simp only [Option.bind_some]
  cases h : threeB 12 x y z with
  | false =>
    rw [if_neg (by decide), if_neg (by simp)]
    simp only [spec_LineOfRank.j0]
    rfl
  | true =>
    obtain ⟨t, g, f, rfl, rfl, rfl, h1, h2⟩ := threeB_is (by omega) h
    have hb := M_small (t := t) (g := g) (f := f) (by omega)
    have hp := M_pos (t := t) (g := g) (f := f) (by omega)
    rw [if_pos rfl, many_eq t g f (by omega) (k + 1) (by omega)]
    simp only [Option.bind_some, Int.toNat_natCast, spec_LineOfRank.j0]
    rw [w_pred (M t g f) (by omega), in_eq3]
    simp only [Option.bind_some]
    by_cases hr : 0 ≤ r ∧ r ≤ ((M t g f : Nat) : Int) - 1
    · obtain ⟨r, rfl⟩ := Int.eq_ofNat_of_zero_le hr.1
      rw [decide_eq_true hr, if_neg (by decide), if_pos ⟨trivial, hr.1, by omega⟩, Int.toNat_natCast]
      have hl := lor_l0 (t + g + f) t g f r k [] rfl (by omega) (by omega) (by simp; omega) (by omega)
      rw [List.nil_append] at hl
      exact hl
    · rw [decide_eq_false hr, if_pos (by decide), if_neg (fun h => hr ⟨h.2.1, by omega⟩)]
end Go.Proofs.Ytpelhinjoambfaa.XP

namespace Go.Proofs.Ytpelhinjoambfaa.XP
set_option linter.unusedVariables false
set_option linter.unusedSimpArgs false
open Go Go.RowKit Go.Proofs.YtpelhinjoambfaaW.PrintWords Go.Proofs.YtpelhinjoambfaaB Go.Proofs.Ytpelhinjoambfaa.Ranks
theorem enum_in : ∀ (n t g f : Nat) (l : List UInt8), l ∈ enum n t g f → l.length = n ∧ l.all sgn = true
  | 0, _, _, _, l, h => by
    rw [enum, List.mem_singleton] at h
    subst h
    exact ⟨rfl, rfl⟩
  | n + 1, t, g, f, l, h => by
    have key : ∀ (b : UInt8) (t' g' f' : Nat), sgn b = true → l ∈ (enum n t' g' f').map (b :: ·) → l.length = n + 1 ∧ l.all sgn = true := fun b t' g' f' hb hl => by
      obtain ⟨q, hq, rfl⟩ := List.mem_map.1 hl
      obtain ⟨h1, h2⟩ := enum_in n t' g' f' q hq
      exact ⟨by simp [h1], by simp [hb, h2]⟩
    rw [enum, List.mem_append, List.mem_append] at h
    rcases h with h | h | h
    · split at h
      · cases h
      · exact key 46 _ _ _ rfl h
    · split at h
      · cases h
      · exact key 70 _ _ _ rfl h
    · split at h
      · cases h
      · exact key 84 _ _ _ rfl h
theorem linesAt_in {n t g f : Nat} {pre : List UInt8} (hp : pre.all sgn = true) {s : ByteArray} (h : s ∈ linesAt n t g f pre) : s.size = pre.length + n ∧ s.data.toList.all sgn = true := by
  obtain ⟨l, hl, rfl⟩ := List.mem_map.1 h
  obtain ⟨h1, h2⟩ := enum_in n t g f l hl
  refine ⟨?_, ?_⟩
  · show (pre ++ l).toArray.size = _
    simp [h1]
  · show (pre ++ l).toArray.toList.all sgn = true
    simp only [List.toList_toArray, List.all_append, hp, h2, Bool.and_self]
theorem linesAt_length (n t g f : Nat) (pre : List UInt8) (hn : n = t + g + f) (h12 : n ≤ 12) : (linesAt n t g f pre).length = M t g f := by
  unfold linesAt
  rw [List.length_map, enum_eq n t g f hn h12, List.length_map, List.length_range]
end Go.Proofs.Ytpelhinjoambfaa.XP

namespace Go.Proofs.Ytpelhinjoambfaa.XP
set_option linter.unusedVariables false
set_option linter.unusedSimpArgs false
open Go Go.RowKit Go.Proofs.YtpelhinjoambfaaW.PrintWords Go.Proofs.YtpelhinjoambfaaB Go.Proofs.Ytpelhinjoambfaa.Ranks
def lineU (t g f r : Nat) : ByteArray := ⟨(unrank (t + g + f) t g f r).toArray⟩
theorem linesAt_ranks (t g f : Nat) (h : t + g + f ≤ 12) : linesAt (t + g + f) t g f [] = (List.range' 0 (M t g f)).map (lineU t g f) := by
  unfold linesAt
  rw [enum_eq (t + g + f) t g f rfl h, List.map_map, List.range_eq_range']
  apply List.map_congr_left
  intro r _
  rfl
theorem lorA_in (t g f r : Nat) (h1 : 1 ≤ t + g + f) (h : t + g + f ≤ 12) (hr : r < M t g f) : lorA (t : Int) (g : Int) (f : Int) (r : Int) = (lineU t g f r, true) := by
  unfold lorA lineU
  have hw : wrap64 (wrap64 ((t : Int) + g) + f) = (t : Int) + g + f := w_sum3 t g f (by omega)
  have h3 : threeB 12 (t : Int) (g : Int) (f : Int) = true := by
    unfold threeB
    rw [hw, decide_eq_true (show (0 : Int) ≤ t ∧ (t : Int) ≤ 12 by omega), decide_eq_true (show (0 : Int) ≤ g ∧ (g : Int) ≤ 12 by omega), decide_eq_true (show (0 : Int) ≤ f ∧ (f : Int) ≤ 12 by omega), decide_eq_true (show (1 : Int) ≤ (t : Int) + g + f ∧ (t : Int) + g + f ≤ 12 by omega)]
    rfl
  rw [if_pos ⟨h3, by omega, by rw [Int.toNat_natCast, Int.toNat_natCast, Int.toNat_natCast]; omega⟩]
  simp only [Int.toNat_natCast]
theorem ruLines_l0 (t g f : Nat) (h1 : 1 ≤ t + g + f) (h : t + g + f ≤ 12) : ∀ (d r k : Nat) (out : List ByteArray), r + d = M t g f → d + 100 < k → out.length = r →
    spec_ruLines.l0 k (t : Int) (g : Int) (f : Int) out (r : Int) = some (out ++ (List.range' r d).map (lineU t g f)) := by
  intro d
  have hM := M_small (t := t) (g := g) (f := f) h
  induction d with
  | zero =>
    intro r k out hr hk ho
    obtain ⟨k, rfl⟩ : ∃ m, k = m + 1 := ⟨k - 1, by omega⟩
    rw [spec_ruLines.l0, many_eq t g f h k (by omega), Option.bind_some, if_neg (by omega)]
    simp
  | succ d ih =>
    intro r k out hr hk ho
    obtain ⟨k, rfl⟩ : ∃ m, k = m + 1 := ⟨k - 1, by omega⟩
    rw [spec_ruLines.l0, many_eq t g f h k (by omega), Option.bind_some, if_pos (by omega), spec_lor _ _ _ _ k (by omega), Option.bind_some, lorA_in t g f r h1 h (by omega), if_pos (by omega), w64_succ (n := M t g f) (by omega) (by omega), ih (r + 1) k _ (by omega) (by omega) (by rw [List.length_append, List.length_singleton]; omega), List.range'_succ, List.map_cons, List.append_assoc, List.singleton_append]
theorem ruLines_eq (t g f : Nat) (h1 : 1 ≤ t + g + f) (h : t + g + f ≤ 12) (k : Nat) (hk : 1000200 ≤ k) : spec_ruLines.f k (t : Int) (g : Int) (f : Int) = some (linesAt (t + g + f) t g f []) := by
  unfold spec_ruLines.f
  have hM := M_small (t := t) (g := g) (f := f) h
  rw [linesAt_ranks t g f h]
  exact ruLines_l0 t g f h1 h (M t g f) 0 k [] (by omega) (by omega) rfl
end Go.Proofs.Ytpelhinjoambfaa.XP

namespace Go.Proofs.Ytpelhinjoambfaa.XP
set_option linter.unusedVariables false
set_option linter.unusedSimpArgs false
open Go Go.RowKit Go.Proofs.YtpelhinjoambfaaW.PrintWords Go.Proofs.YtpelhinjoambfaaB
theorem liGood_l0 (a : ByteArray) (hs : a.size ≤ 140737488351232) : ∀ (d i k : Nat), i + d = a.size → d < k → spec_liGood.l0 k a (i : Int) = some ((a.data.toList.drop i).all sgn) := by
  intro d
  induction d with
  | zero =>
    intro i k hi hk
    obtain ⟨k, rfl⟩ : ∃ m, k = m + 1 := ⟨k - 1, by omega⟩
    simp only [spec_liGood.l0]
    rw [if_neg (by omega), List.drop_of_length_le (by rw [data_length]; omega)]
    rfl
  | succ d ih =>
    intro i k hi hk
    obtain ⟨k, rfl⟩ : ∃ m, k = m + 1 := ⟨k - 1, by omega⟩
    obtain ⟨c, hd, hb⟩ := bt_eq a i (by omega)
    simp only [spec_liGood.l0]
    rw [if_pos (by omega), if_pos (by omega), hb, w64_succ (n := a.size) (by omega) hs, ih (i + 1) k (by omega) (by omega), hd, List.all_cons]
    simp only [is84, is70, is46]
    by_cases h1 : c = 84
    · subst h1; simp [sgn]
    by_cases h2 : c = 70
    · subst h2; simp [sgn]
    by_cases h3 : c = 46
    · subst h3; simp [sgn]
    simp [h1, h2, h3, sgn]
theorem liGood_eq (a : ByteArray) (hs : a.size ≤ 140737488351232) (k : Nat) (hk : 20 ≤ k) : spec_liGood.f k a = some (isLine 12 a) := by
  unfold spec_liGood.f isLine
  rw [l1In_eq]
  simp only [Option.bind_some]
  by_cases h1 : 1 ≤ a.size
  · by_cases h2 : a.size ≤ 12
    · have h := liGood_l0 a hs a.size 0 k (by omega) (by omega)
      rw [List.drop_zero] at h
      rw [if_pos (by simp; omega)]
      simp only [h1, h2, decide_true, Bool.true_and]
      exact h
    · rw [if_neg (by simp; omega)]
      simp [h2]
  · rw [if_neg (by simp; omega)]
    simp [h1]
end Go.Proofs.Ytpelhinjoambfaa.XP

namespace Go.Proofs.Ytpelhinjoambfaa.XP
set_option linter.unusedVariables false
set_option linter.unusedSimpArgs false
open Go Go.RowKit Go.Proofs.YtpelhinjoambfaaW.PrintWords Go.Proofs.YtpelhinjoambfaaB
theorem liCount_l0 (a : ByteArray) (hs : a.size ≤ 140737488351232) (c : UInt8) : ∀ (d i k n : Nat), i + d = a.size → d < k → n ≤ i → spec_liCount.l0 k a (c.toNat : Int) (n : Int) (i : Int) = some ((n + (a.data.toList.drop i).count c : Nat) : Int) := by
  intro d
  induction d with
  | zero =>
    intro i k n hi hk hn
    obtain ⟨k, rfl⟩ : ∃ m, k = m + 1 := ⟨k - 1, by omega⟩
    simp only [spec_liCount.l0]
    rw [if_neg (by omega), List.drop_of_length_le (by rw [data_length]; omega)]
    simp
  | succ d ih =>
    intro i k n hi hk hn
    obtain ⟨k, rfl⟩ : ∃ m, k = m + 1 := ⟨k - 1, by omega⟩
    obtain ⟨x, hd, hb⟩ := bt_eq a i (by omega)
    simp only [spec_liCount.l0]
    rw [if_pos (by omega), if_pos (by omega), hb, w64_succ (i := i) (n := a.size) (by omega) hs, w64_succ (i := n) (n := a.size) (by omega) hs, ih (i + 1) k (n + 1) (by omega) (by omega) (by omega), ih (i + 1) k n (by omega) (by omega) (by omega), hd, List.count_cons]
    simp only [byte_inj]
    by_cases h : x = c
    · subst h
      rw [if_pos rfl]
      simp
      omega
    · rw [if_neg h]
      simp [h]
theorem liCount_eq (a : ByteArray) (hs : a.size ≤ 140737488351232) (c : UInt8) (k : Nat) (hk : a.size < k) : spec_liCount.f k a (c.toNat : Int) = some ((a.data.toList.count c : Nat) : Int) := by
  have h := liCount_l0 a hs c a.size 0 k 0 (by omega) hk (by omega)
  rw [List.drop_zero, Nat.zero_add] at h
  exact h
end Go.Proofs.Ytpelhinjoambfaa.XP

namespace Go.Proofs.Ytpelhinjoambfaa.XP
set_option linter.unusedVariables false
set_option linter.unusedSimpArgs false
open Go Go.RowKit Go.Proofs.YtpelhinjoambfaaW.PrintWords Go.Proofs.YtpelhinjoambfaaB Go.Proofs.Ytpelhinjoambfaa.Ranks
theorem rkl_cons (c : UInt8) (l : List UInt8) : rank (c :: l) = (if c = 46 then 0 else if c = 70 then GG ((c :: l).count 84) ((c :: l).count 46) ((c :: l).count 70) else GG ((c :: l).count 84) ((c :: l).count 46) ((c :: l).count 70) + FF ((c :: l).count 84) ((c :: l).count 46) ((c :: l).count 70)) + rank l := rfl
theorem rkl_l0 (a : ByteArray) (h12 : a.size ≤ 12) (hall : a.data.toList.all sgn = true) : ∀ (d i k acc : Nat), i + d = a.size → d + 50 < k → acc ≤ 10000000 * i →
    spec_RankOfLine.l0 k a (acc : Int) (((a.data.toList.drop i).count 84 : Nat) : Int) (((a.data.toList.drop i).count 46 : Nat) : Int) (((a.data.toList.drop i).count 70 : Nat) : Int) (i : Int) = some (((acc + rank (a.data.toList.drop i) : Nat) : Int), true) := by
  intro d
  induction d with
  | zero =>
    intro i k acc hi hk _
    obtain ⟨k, rfl⟩ : ∃ m, k = m + 1 := ⟨k - 1, by omega⟩
    simp only [spec_RankOfLine.l0]
    rw [if_neg (by omega), List.drop_of_length_le (by rw [data_length]; omega)]
    rfl
  | succ d ih =>
    intro i k acc hi hk hacc
    obtain ⟨k, rfl⟩ : ∃ m, k = m + 1 := ⟨k - 1, by omega⟩
    obtain ⟨c, hd, hb⟩ := bt_eq a i (by omega)
    have hal2 : (a.data.toList.drop i).all sgn = true := List.all_eq_true.2 fun x hx => List.all_eq_true.1 hall x (List.mem_of_mem_drop hx)
    have hlen := counts_len hal2
    rw [List.length_drop, data_length] at hlen
    have hsg : sgn c = true := by
      rw [hd, List.all_cons, Bool.and_eq_true] at hal2
      exact hal2.1
    have hrk := rkl_cons c (a.data.toList.drop (i + 1))
    have hih := fun acc2 h => ih (i + 1) k acc2 (by omega) (by omega) h
    have c1 : (c :: a.data.toList.drop (i + 1)).count 84 = (a.data.toList.drop (i + 1)).count 84 + if c = 84 then 1 else 0 := by rw [List.count_cons]; simp
    have c2 : (c :: a.data.toList.drop (i + 1)).count 46 = (a.data.toList.drop (i + 1)).count 46 + if c = 46 then 1 else 0 := by rw [List.count_cons]; simp
    have c3 : (c :: a.data.toList.drop (i + 1)).count 70 = (a.data.toList.drop (i + 1)).count 70 + if c = 70 then 1 else 0 := by rw [List.count_cons]; simp
    rw [← hd] at hrk c1 c2 c3
    generalize (a.data.toList.drop i).count 84 = t at *
    generalize (a.data.toList.drop i).count 46 = g at *
    generalize (a.data.toList.drop i).count 70 = f at *
    generalize (a.data.toList.drop (i + 1)).count 84 = t' at *
    generalize (a.data.toList.drop (i + 1)).count 46 = g' at *
    generalize (a.data.toList.drop (i + 1)).count 70 = f' at *
    generalize rank (a.data.toList.drop (i + 1)) = rr at *
    rw [hrk]
    have b1 := GG_le (t := t) (g := g) (f := f) (by omega)
    have b2 := FF_le (t := t) (g := g) (f := f) (by omega)
    have z0 : (i : Int) < (a.size : Int) := by omega
    have g1 := many_GG t g f (by omega) k (by omega)
    have g2 := many_FF t g f (by omega) k (by omega)
    clear hd hal2 hall hrk ih
    simp only [spec_RankOfLine.l0]
    rw [if_pos z0, if_pos (by omega), hb, w64_succ (n := a.size) (by omega) (by omega), w_pred t (by omega), w_pred g (by omega), w_pred f (by omega), g1, g2]
    simp only [Option.bind_some, is46, is70]
    generalize GG t g f = x at *
    generalize FF t g f = y at *
    clear g1 g2 hb
    rcases sgn_cases hsg with rfl | rfl | rfl
    · rw [if_pos rfl, if_pos rfl]
      simp at c1 c2 c3
      subst c1 c2 c3
      rw [show (((g' + 1 : Nat) : Int) - 1) = (g' : Int) from by omega, hih acc (by omega), Nat.zero_add]
    · simp only [show ((70 : UInt8) = 46) = False from by simp, if_false, if_true]
      simp at c1 c2 c3
      subst c1 c2 c3
      rw [show wrap64 ((acc : Int) + (x : Int)) = ((acc + x : Nat) : Int) from by rw [w64 (by omega) (by omega)]; omega, show (((f' + 1 : Nat) : Int) - 1) = (f' : Int) from by omega, hih (acc + x) (by omega), Nat.add_assoc]
    · simp only [show ((84 : UInt8) = 46) = False from by simp, show ((84 : UInt8) = 70) = False from by simp, if_false]
      rw [w_sum2 x y b1 b2]
      simp at c1 c2 c3
      subst c1 c2 c3
      rw [show wrap64 ((acc : Int) + ((x + y : Nat) : Int)) = ((acc + (x + y) : Nat) : Int) from by rw [w64 (by omega) (by omega)]; omega, show (((t' + 1 : Nat) : Int) - 1) = (t' : Int) from by omega, hih (acc + (x + y)) (by omega), Nat.add_assoc]
/-- what both answer -/
def rklA (a : ByteArray) : Int × Bool := if isLine 12 a = true then (((rank a.data.toList : Nat) : Int), true) else (0, false)
theorem spec_rkl (a : ByteArray) (hs : a.size ≤ 140737488351232) (k : Nat) (hk : 80 ≤ k) : spec_RankOfLine.f k a = some (rklA a) := by
  unfold spec_RankOfLine.f rklA
  rw [liGood_eq a hs k (by omega)]
  simp only [Option.bind_some]
  cases hL : isLine 12 a with
  | false => rw [if_neg (by decide), if_neg (by decide)]
  | true =>
    obtain ⟨h1, h12, hall⟩ := isLine_size hL
    rw [if_pos rfl, if_pos rfl, show spec_liCount.f k a 84 = _ from liCount_eq a hs 84 k (by omega), show spec_liCount.f k a 46 = _ from liCount_eq a hs 46 k (by omega), show spec_liCount.f k a 70 = _ from liCount_eq a hs 70 k (by omega)]
    simp only [Option.bind_some]
    have h := rkl_l0 a h12 hall a.size 0 k 0 (by omega) (by omega) (by omega)
    rw [List.drop_zero, Nat.zero_add] at h
    exact h
end Go.Proofs.Ytpelhinjoambfaa.XP

namespace Go.Proofs.Ytpelhinjoambfaa.XP
set_option linter.unusedVariables false
set_option linter.unusedSimpArgs false
open Go Go.RowKit Go.Proofs.YtpelhinjoambfaaW.PrintWords Go.Proofs.YtpelhinjoambfaaB Go.Proofs.Ytpelhinjoambfaa.Ranks

theorem linesAt_at (t g f : Nat) (h : t + g + f ≤ 12) {r : Nat} (hr : r < M t g f) : (linesAt (t + g + f) t g f [])[r]? = some (lineU t g f r) := by
  rw [linesAt_ranks t g f h, List.getElem?_map, List.getElem?_range' hr, Nat.zero_add, Nat.one_mul]
  rfl
theorem lineU_list (t g f r : Nat) : (lineU t g f r).data.toList = unrank (t + g + f) t g f r := by
  unfold lineU
  simp
theorem linesAt_nodup (t g f : Nat) (h : t + g + f ≤ 12) : (linesAt (t + g + f) t g f []).Nodup := by
  rw [linesAt_ranks t g f h, List.Nodup, List.pairwise_map]
  refine (List.nodup_range' (step := 1)).imp_of_mem fun {a b} ha hb hne e => hne ?_
  have ha := List.mem_range'_1.1 ha
  have hb := List.mem_range'_1.1 hb
  obtain ⟨_, _, _, _, _, a6⟩ := unrank_is (t + g + f) t g f a rfl h (by omega)
  obtain ⟨_, _, _, _, _, b6⟩ := unrank_is (t + g + f) t g f b rfl h (by omega)
  have e2 := congrArg (fun x : ByteArray => rank x.data.toList) e
  simp only [lineU_list, a6, b6] at e2
  exact e2
/-- a line with the same numbers of signs stands in the list, at its number -/
theorem linesAt_rank (t g f : Nat) (h : t + g + f ≤ 12) {y : ByteArray} (hy : y.data.toList.all sgn = true) (c1 : y.data.toList.count 84 = t) (c2 : y.data.toList.count 46 = g) (c3 : y.data.toList.count 70 = f) : rank y.data.toList < M t g f ∧ (linesAt (t + g + f) t g f [])[rank y.data.toList]? = some y := by
  have hl := counts_len hy
  have hr := rank_lt y.data.toList hy (by omega)
  have hu := unrank_rank y.data.toList hy (by omega)
  rw [c1, c2, c3] at hr hu hl
  refine ⟨hr, ?_⟩
  rw [linesAt_at t g f h hr]
  unfold lineU
  rw [hl, hu]
theorem linesAt_counts (t g f : Nat) (h : t + g + f ≤ 12) {x : ByteArray} (hx : x ∈ linesAt (t + g + f) t g f []) : x.data.toList.all sgn = true ∧ x.data.toList.count 84 = t ∧ x.data.toList.count 46 = g ∧ x.data.toList.count 70 = f := by
  rw [linesAt_ranks t g f h] at hx
  obtain ⟨r, hr, rfl⟩ := List.mem_map.1 hx
  have hr := List.mem_range'_1.1 hr
  obtain ⟨u1, u2, u3, u4, u5, u6⟩ := unrank_is (t + g + f) t g f r rfl h (by omega)
  rw [lineU_list]
  exact ⟨u2, u3, u4, u5⟩
theorem mv_signs {a : ByteArray} (h : a.data.toList.all sgn = true) (f t : Int) (f0 : 0 ≤ f) (f1 : f < (a.size : Int)) : (mv a f t).data.toList.all sgn = true := by
  have hf : f.toNat < a.data.toList.length := by rw [data_length]; omega
  unfold mv
  rw [List.all_eq_true] at h ⊢
  intro x hx
  have hx2 : x ∈ (a.data.toList.set t.toNat (a.data.toList.getD f.toNat 0)).set f.toNat 46 := by simpa using hx
  rcases List.mem_or_eq_of_mem_set hx2 with hx3 | rfl
  · rcases List.mem_or_eq_of_mem_set hx3 with hx4 | rfl
    · exact h x hx4
    · rw [List.getD_eq_getElem?_getD, List.getElem?_eq_getElem hf]
      exact h _ (List.getElem_mem hf)
  · rfl
/-- where a move by a rule leads, there was a gap -/
theorem bcan_46 {a : ByteArray} (hs : a.size ≤ 100) {o b l : Bool} {f t : Int} (h : bcan a o b l f t = true) : bt a t = 46 := by
  unfold bcan at h
  simp only [Bool.and_eq_true, decide_eq_true_eq, Bool.or_eq_true, beq_iff_eq] at h
  obtain ⟨⟨h0, h1⟩, h⟩ := h
  rcases h with h | h
  · exact (bgo_in hs (by omega) (.inr rfl) h).2.2.1
  · exact (bgo_in hs (by omega) (.inl rfl) h).2.2.1
/-- a move by a rule leads from a line to a line with the same numbers, that stands at its own number -/
theorem mv_there (t g f : Nat) (h1 : 1 ≤ t + g + f) (h : t + g + f ≤ 8) (o b l : Bool) {x : ByteArray} (hx : x ∈ linesAt (t + g + f) t g f []) {m : S58} (hm : m ∈ bmoves x o b l) :
    spec_liMake.f x m.f0 m.f1 = some (mv x m.f0 m.f1) ∧ impl_made.f x m.f0 m.f1 = some (mv x m.f0 m.f1) ∧ isLine 12 (mv x m.f0 m.f1) = true ∧ (linesAt (t + g + f) t g f [])[rank (mv x m.f0 m.f1).data.toList]? = some (mv x m.f0 m.f1) := by
  obtain ⟨c0, c1, c2, c3⟩ := linesAt_counts t g f (by omega) hx
  obtain ⟨s1, _⟩ := linesAt_in (pre := []) rfl hx
  rw [List.length_nil, Nat.zero_add] at s1
  obtain ⟨p, q⟩ := m
  have hc := (bmoves_mem x (by omega) o b l p q).1 hm
  obtain ⟨f0, f1, t0, t1, ne⟩ := bcan_in (by omega) hc
  have h46 := bcan_46 (by omega) hc
  have hsz := mv_size x p q
  have n1 := mv_count x p q f0 f1 t0 t1 ne h46 84
  have n2 := mv_count x p q f0 f1 t0 t1 ne h46 46
  have n3 := mv_count x p q f0 f1 t0 t1 ne h46 70
  have hall : (mv x p q).data.toList.all sgn = true := mv_signs c0 p q f0 f1
  refine ⟨liMake_eq x (by omega) p q f0 f1 t0 t1 ne, impl_made_eq x (by omega) p q f0 f1 t0 t1 ne, ?_, (linesAt_rank t g f (by omega) hall (n1.trans c1) (n2.trans c2) (n3.trans c3)).2⟩
  unfold isLine
  rw [hsz, hall, decide_eq_true (show 1 ≤ x.size by omega), decide_eq_true (show x.size ≤ 12 by omega)]
  rfl
end Go.Proofs.Ytpelhinjoambfaa.XP
