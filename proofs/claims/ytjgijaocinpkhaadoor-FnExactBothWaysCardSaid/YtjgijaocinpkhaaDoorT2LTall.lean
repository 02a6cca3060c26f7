/- Plain facts on lines, moves and searches, for the statement at hand: each theorem names its conditions. -/
import Derived.Test.YtjgijaocinpkhaaDoorT2B
import Derived.Test.YtjgijaocinpkhaaDoorT2XW
import Derived.Test.YtjgijaocinpkhaaDoorT2Bfs
import Derived.Test.YtjgijaocinpkhaaDoorT2Pm
import Derived.Test.YtjgijaocinpkhaaDoorT2Srts
import Derived.Test.YtjgijaocinpkhaaDoorT2XT0
import Derived.Test.YtjgijaocinpkhaaDoorT2XT1
import Derived.Test.YtjgijaocinpkhaaDoorT2XT10
import Derived.Test.YtjgijaocinpkhaaDoorT2XT2
import Derived.Test.YtjgijaocinpkhaaDoorT2XT3
import Derived.Test.YtjgijaocinpkhaaDoorT2XT4
import Derived.Test.YtjgijaocinpkhaaDoorT2XT5
import Derived.Test.YtjgijaocinpkhaaDoorT2XT6
import Derived.Test.YtjgijaocinpkhaaDoorT2XT7
import Derived.Test.YtjgijaocinpkhaaDoorT2XT8
import Derived.Test.YtjgijaocinpkhaaDoorT2XT9
namespace Go.Proofs.YtjgijaocinpkhaaDoor.XT
set_option linter.unusedVariables false
set_option linter.unusedSimpArgs false
open Go Go.RowKit Go.Proofs.YtjgijaocinpkhaaDoorW.PrintWords Go.Proofs.YtjgijaocinpkhaaDoorB

theorem l1In_eq (a b c : Int) : spec_l1In.f a b c = some (decide (b ≤ a) && decide (a ≤ c)) := by
  unfold spec_l1In.f
  by_cases h : b ≤ a <;> simp [h]
theorem within_eq (a b c : Int) : impl_within.f a b c = some (decide (b ≤ a) && decide (a ≤ c)) := by
  unfold impl_within.f
  by_cases h : b ≤ a <;> simp [h]
end Go.Proofs.YtjgijaocinpkhaaDoor.XT

namespace Go.Proofs.YtjgijaocinpkhaaDoor.XT
set_option linter.unusedVariables false
set_option linter.unusedSimpArgs false
open Go Go.RowKit Go.Proofs.YtjgijaocinpkhaaDoorW.PrintWords Go.Proofs.YtjgijaocinpkhaaDoorB

theorem liGood_l0 (a : ByteArray) (hs : a.size ≤ 140737488351232) : ∀ (d i k : Nat), i + d = a.size → d < k → spec_liGood.l0 k a (i : Int) = some ((a.data.toList.drop i).all sgn) := by
  intro d
  induction d with
  | zero =>
    intro i k hi hk
    obtain ⟨k, rfl⟩ : ∃ m, k = m + 1 := ⟨k - 1, by omega⟩
    simp only [spec_liGood.l0]
    rw [if_neg (by omega), List.drop_of_length_le (by rw [data_length]; omega)]
    rfl
  | succ d ih =>
    intro i k hi hk
    obtain ⟨k, rfl⟩ : ∃ m, k = m + 1 := ⟨k - 1, by omega⟩
    obtain ⟨c, hd, hb⟩ := bt_eq a i (by omega)
    simp only [spec_liGood.l0]
    rw [if_pos (by omega), if_pos (by omega), hb, w64_succ (n := a.size) (by omega) hs, ih (i + 1) k (by omega) (by omega), hd, List.all_cons]
    simp only [is84, is70, is46]
    by_cases h1 : c = 84
    · subst h1; simp [sgn]
    by_cases h2 : c = 70
    · subst h2; simp [sgn]
    by_cases h3 : c = 46
    · subst h3; simp [sgn]
    simp [h1, h2, h3, sgn]
theorem liGood_eq (a : ByteArray) (hs : a.size ≤ 140737488351232) (k : Nat) (hk : 20 ≤ k) : spec_liGood.f k a = some (isLine 12 a) := by
  unfold spec_liGood.f isLine
  rw [l1In_eq]
  simp only [Option.bind_some]
  by_cases h1 : 1 ≤ a.size
  · by_cases h2 : a.size ≤ 12
    · have h := liGood_l0 a hs a.size 0 k (by omega) (by omega)
      rw [List.drop_zero] at h
      rw [if_pos (by simp; omega)]
      simp only [h1, h2, decide_true, Bool.true_and]
      exact h
    · rw [if_neg (by simp; omega)]
      simp [h2]
  · rw [if_neg (by simp; omega)]
    simp [h1]
theorem isLineOf_eq (a : ByteArray) (m : Nat) (hs : a.size ≤ 140737488351232) : impl_isLineOf.f a (m : Int) = some (isLine m a) := by
  unfold impl_isLineOf.f isLine
  rw [within_eq]
  simp only [Option.bind_some]
  by_cases h1 : 1 ≤ a.size
  · by_cases h2 : a.size ≤ m
    · rw [if_pos (by simp; omega)]
      unfold strings_Trim.f
      rw [if_pos ⟨by omega, by decide, by decide⟩]
      simp only [Option.bind_some, h1, h2, decide_true, Bool.true_and]
      exact congrArg some (trim_sgn _)
    · rw [if_neg (by simp; omega)]
      simp [h2]
  · rw [if_neg (by simp; omega)]
    simp [h1]
end Go.Proofs.YtjgijaocinpkhaaDoor.XT

namespace Go.Proofs.YtjgijaocinpkhaaDoor.XT
set_option linter.unusedVariables false
set_option linter.unusedSimpArgs false
open Go Go.RowKit Go.Proofs.YtjgijaocinpkhaaDoorW.PrintWords Go.Proofs.YtjgijaocinpkhaaDoorB

/-- the sign at a place, 0 outside -/
def sg (a : ByteArray) (i : Int) : Int := if 0 ≤ i ∧ i < (a.size : Int) then bt a i else 0
theorem impl_at_eq (a : ByteArray) (i : Int) : impl_at.f a i = some (sg a i) := by
  unfold impl_at.f sg
  by_cases h0 : i < 0
  · rw [if_pos h0, if_neg (by omega)]
  · rw [if_neg h0]
    by_cases h1 : i ≥ (a.size : Int)
    · rw [if_pos h1, if_neg (by omega)]
    · rw [if_neg h1, if_pos (by omega), if_pos (by omega), if_pos (by omega)]
theorem sg_in {a : ByteArray} {i : Int} (h0 : 0 ≤ i) (h1 : i < (a.size : Int)) : sg a i = bt a i := if_pos ⟨h0, h1⟩
theorem sg_is {a : ByteArray} {i c : Int} (h : sg a i = c) (hc : c ≠ 0) : 0 ≤ i ∧ i < (a.size : Int) ∧ bt a i = c := by
  unfold sg at h
  split at h
  · rename_i hi
    exact ⟨hi.1, hi.2, h⟩
  · exact absurd h.symm hc
end Go.Proofs.YtjgijaocinpkhaaDoor.XT

namespace Go.Proofs.YtjgijaocinpkhaaDoor.XT
set_option linter.unusedVariables false
set_option linter.unusedSimpArgs false
open Go Go.RowKit Go.Proofs.YtjgijaocinpkhaaDoorW.PrintWords Go.Proofs.YtjgijaocinpkhaaDoorB

def oth (c : Int) : Int := if c = 84 then 70 else if c = 70 then 84 else c
theorem impl_other_eq (c : Int) : impl_other.f c = some (oth c) := by
  unfold impl_other.f oth
  split
  · rfl
  · split <;> rfl
/-- what is jumped over -/
def jmp (o : Bool) (c x : Int) : Bool := x == oth c || (o && x == c)
theorem goalBy_l0 (a : ByteArray) (hs : a.size ≤ 100) (i : Nat) (hi : i < a.size) (hc : bt a (i : Int) = 84 ∨ bt a (i : Int) = 70) (d : Int) (hd : d = 1 ∨ d = -1) (o b l : Bool) :
    ∀ (e m : Nat), m + e = a.size → ∃ M : Nat, m ≤ M ∧ M ≤ a.size ∧ (∀ j : Nat, m ≤ j → j < M → jmp o (bt a i) (sg a ((i : Int) + d * (j : Int))) = true) ∧ jmp o (bt a i) (sg a ((i : Int) + d * (M : Int))) = false ∧
      ∀ k, e < k → impl_goalBy.l0 k a (i : Int) d ((i : Int) + d * (m : Int)) o b l = some ((i : Int) + d * (M : Int), decide (sg a ((i : Int) + d * (M : Int)) = 46 ∧ (M ≤ 2 ∨ l = true))) := by
  have f0 : (0 : Int) ≤ (i : Int) := by omega
  have f1 : (i : Int) < (a.size : Int) := by omega
  -- a place that is not jumped over ends the way
  have stop : ∀ m : Nat, m ≤ a.size → jmp o (bt a i) (sg a ((i : Int) + d * (m : Int))) = false → ∀ k, 0 < k → impl_goalBy.l0 k a (i : Int) d ((i : Int) + d * (m : Int)) o b l = some ((i : Int) + d * (m : Int), decide (sg a ((i : Int) + d * (m : Int)) = 46 ∧ (m ≤ 2 ∨ l = true))) := by
    intro m hm hj k hk
    obtain ⟨k, rfl⟩ : ∃ q, k = q + 1 := ⟨k - 1, by omega⟩
    have w1 : wrap64 ((i : Int) + d * (m : Int) - (i : Int)) = d * (m : Int) := by rcases hd with rfl | rfl <;> (rw [w64 (by omega) (by omega)]; omega)
    have w2 : wrap64 (d * (m : Int) * d) = (m : Int) := by rcases hd with rfl | rfl <;> (rw [w64 (by omega) (by omega)]; omega)
    have w3 : wrap64 ((m : Int) - 1) = (m : Int) - 1 := w64 (by omega) (by omega)
    unfold jmp at hj
    simp only [Bool.or_eq_false_iff, Bool.and_eq_false_iff, beq_eq_false_iff_ne] at hj
    obtain ⟨j1, j2⟩ := hj
    have fin : (if sg a ((i : Int) + d * (m : Int)) = 46 then (if (m : Int) - 1 ≤ 1 then some ((i : Int) + d * (m : Int), true) else some ((i : Int) + d * (m : Int), l)) else some ((i : Int) + d * (m : Int), false)) = some ((i : Int) + d * (m : Int), decide (sg a ((i : Int) + d * (m : Int)) = 46 ∧ (m ≤ 2 ∨ l = true))) := by
      by_cases q1 : sg a ((i : Int) + d * (m : Int)) = 46
      · rw [if_pos q1]
        by_cases q2 : (m : Int) - 1 ≤ 1
        · rw [if_pos q2, decide_eq_true ⟨q1, .inl (by omega)⟩]
        · rw [if_neg q2]
          cases l with
          | true => rw [decide_eq_true ⟨q1, .inr rfl⟩]
          | false => rw [decide_eq_false (fun h => by rcases h.2 with h | h; omega; cases h)]
      · rw [if_neg q1, decide_eq_false (fun h => q1 h.1)]
    simp only [impl_goalBy.l0, impl_at_eq, impl_other_eq, Option.bind_some]
    rw [if_pos f0, if_pos f1, if_neg j1, w1, w2, w3]
    cases o with
    | true =>
      have j3 : ¬ sg a ((i : Int) + d * (m : Int)) = bt a (i : Int) := by
        rcases j2 with j2 | j2
        · cases j2
        · exact j2
      rw [if_pos rfl, if_neg j3]
      exact fin
    | false =>
      rw [if_neg (by decide)]
      exact fin
  have go : ∀ m : Nat, m < a.size → jmp o (bt a i) (sg a ((i : Int) + d * (m : Int))) = true → ∀ k, impl_goalBy.l0 (k + 1) a (i : Int) d ((i : Int) + d * (m : Int)) o b l = impl_goalBy.l0 k a (i : Int) d ((i : Int) + d * ((m + 1 : Nat) : Int)) o b l := by
    intro m hm hj k
    have w1 : wrap64 ((i : Int) + d * (m : Int) + d) = (i : Int) + d * ((m + 1 : Nat) : Int) := by rcases hd with rfl | rfl <;> (rw [w64 (by omega) (by omega)]; omega)
    unfold jmp at hj
    simp only [Bool.or_eq_true, Bool.and_eq_true, beq_iff_eq] at hj
    simp only [impl_goalBy.l0, impl_at_eq, impl_other_eq, Option.bind_some]
    rw [if_pos f0, if_pos f1, w1]
    by_cases q : sg a ((i : Int) + d * (m : Int)) = oth (bt a (i : Int))
    · rw [if_pos q]
    · rw [if_neg q]
      rcases hj with h | ⟨h1, h2⟩
      · exact absurd h q
      · rw [if_pos h1, if_pos h2]
  intro e
  induction e with
  | zero =>
    intro m hm
    have hout : jmp o (bt a i) (sg a ((i : Int) + d * (m : Int))) = false := by
      have hz : sg a ((i : Int) + d * (m : Int)) = 0 := by
        unfold sg
        rw [if_neg (by rcases hd with rfl | rfl <;> omega)]
      rw [hz]
      unfold jmp oth
      rcases hc with h | h <;> rw [h] <;> cases o <;> decide
    exact ⟨m, Nat.le_refl _, by omega, fun j h1 h2 => by omega, hout, fun k hk => stop m (by omega) hout k (by omega)⟩
  | succ e ih =>
    intro m hm
    cases hj : jmp o (bt a i) (sg a ((i : Int) + d * (m : Int))) with
    | false => exact ⟨m, Nat.le_refl _, by omega, fun j h1 h2 => by omega, hj, fun k hk => stop m (by omega) hj k (by omega)⟩
    | true =>
      obtain ⟨M, h1, h2, h3, h4, h5⟩ := ih (m + 1) (by omega)
      refine ⟨M, by omega, h2, fun j g1 g2 => ?_, h4, fun k hk => ?_⟩
      · by_cases e : j = m
        · subst e; exact hj
        · exact h3 j (by omega) g2
      · obtain ⟨k, rfl⟩ : ∃ q, k = q + 1 := ⟨k - 1, by omega⟩
        rw [go m (by omega) hj k]
        exact h5 k (by omega)
theorem goalBy_eq (a : ByteArray) (hs : a.size ≤ 100) (i : Nat) (hi : i < a.size) (hc : bt a (i : Int) = 84 ∨ bt a (i : Int) = 70) (d : Int) (hd : d = 1 ∨ d = -1) (o b l : Bool) :
    ∃ M : Nat, 1 ≤ M ∧ M ≤ a.size ∧ (∀ j : Nat, 1 ≤ j → j < M → jmp o (bt a i) (sg a ((i : Int) + d * (j : Int))) = true) ∧ jmp o (bt a i) (sg a ((i : Int) + d * (M : Int))) = false ∧
      ∀ k, a.size < k → impl_goalBy.f k a (i : Int) d o b l = some ((i : Int) + d * (M : Int), decide (sg a ((i : Int) + d * (M : Int)) = 46 ∧ (M ≤ 2 ∨ l = true))) := by
  obtain ⟨M, h1, h2, h3, h4, h5⟩ := goalBy_l0 a hs i hi hc d hd o b l (a.size - 1) 1 (by omega)
  refine ⟨M, h1, h2, h3, h4, fun k hk => ?_⟩
  unfold impl_goalBy.f
  rw [← h5 k (by omega)]
  congr 1
  rcases hd with rfl | rfl <;> (rw [w64 (by omega) (by omega)]; omega)
end Go.Proofs.YtjgijaocinpkhaaDoor.XT

namespace Go.Proofs.YtjgijaocinpkhaaDoor.XT
set_option linter.unusedVariables false
set_option linter.unusedSimpArgs false
open Go Go.RowKit Go.Proofs.YtjgijaocinpkhaaDoorW.PrintWords Go.Proofs.YtjgijaocinpkhaaDoorB

instance : DecidableEq S83 := fun x y => decidable_of_iff (x.f0 = y.f0 ∧ x.f1 = y.f1) (by obtain ⟨a, b⟩ := x; obtain ⟨c, d⟩ := y; simp)
/-- all moves from f to a place from j on, e places, that p lets in -/
def collect (p : Int → Bool) (f : Int) : Nat → Nat → List S83
  | 0, _ => []
  | e + 1, j => (if p (j : Int) = true then [⟨f, (j : Int)⟩] else []) ++ collect p f e (j + 1)
theorem collect_none (p : Int → Bool) (f : Int) : ∀ (e j : Nat), (∀ t : Nat, j ≤ t → t < j + e → p (t : Int) = false) → collect p f e j = []
  | 0, _, _ => rfl
  | e + 1, j, h => by
    rw [collect, h j (by omega) (by omega), collect_none p f e (j + 1) (fun t h1 h2 => h t (by omega) (by omega))]
    rfl
theorem collect_split (p : Int → Bool) (f : Int) : ∀ (e1 e2 j : Nat), collect p f (e1 + e2) j = collect p f e1 j ++ collect p f e2 (j + e1)
  | 0, e2, j => by rw [Nat.zero_add]; rfl
  | e1 + 1, e2, j => by
    rw [show e1 + 1 + e2 = (e1 + e2) + 1 from by omega, collect, collect, collect_split p f e1 e2 (j + 1), List.append_assoc, show j + 1 + e1 = j + (e1 + 1) from by omega]
theorem collect_one (p : Int → Bool) (f : Int) (e j g : Nat) (h1 : j ≤ g) (h2 : g < j + e) (h : ∀ t : Nat, j ≤ t → t < j + e → (p (t : Int) = true ↔ t = g)) : collect p f e j = [⟨f, (g : Int)⟩] := by
  obtain ⟨a, rfl⟩ : ∃ a, g = j + a := ⟨g - j, by omega⟩
  obtain ⟨b, rfl⟩ : ∃ b, e = a + (1 + b) := ⟨e - a - 1, by omega⟩
  have no : ∀ t : Nat, j ≤ t → t < j + (a + (1 + b)) → t ≠ j + a → p (t : Int) = false := fun t x y z => by
    cases hp : p (t : Int) with
    | false => rfl
    | true => exact absurd ((h t x y).1 hp) z
  rw [collect_split, collect_split, collect_none p f a j (fun t x y => no t x (by omega) (by omega)), collect_none p f b (j + a + 1) (fun t x y => no t (by omega) (by omega) (by omega))]
  simp only [collect, (h (j + a) (by omega) (by omega)).2 rfl, if_true, List.nil_append, List.append_nil]
/-- place after place -/
def each (g : Nat → List S83) : Nat → Nat → List S83
  | 0, _ => []
  | d + 1, i => g i ++ each g d (i + 1)
theorem each_length (g : Nat → List S83) (c : Nat) (h : ∀ i, (g i).length ≤ c) : ∀ (d i : Nat), (each g d i).length ≤ d * c
  | 0, _ => by simp [each]
  | d + 1, i => by
    have h1 := each_length g c h d (i + 1)
    have h2 := h i
    rw [each, List.length_append, Nat.add_mul]
    omega
theorem each_congr (g g' : Nat → List S83) : ∀ (d i : Nat), (∀ j, i ≤ j → j < i + d → g j = g' j) → each g d i = each g' d i
  | 0, _, _ => rfl
  | d + 1, i, h => by rw [each, each, h i (by omega) (by omega), each_congr g g' d (i + 1) (fun j h1 h2 => h j (by omega) (by omega))]
theorem each_mem (g : Nat → List S83) (m : S83) : ∀ (d i : Nat), m ∈ each g d i ↔ ∃ j, i ≤ j ∧ j < i + d ∧ m ∈ g j
  | 0, i => by simp [each]; omega
  | d + 1, i => by
    rw [each, List.mem_append, each_mem g m d (i + 1)]
    constructor
    · rintro (h | ⟨j, h1, h2, h3⟩)
      · exact ⟨i, by omega, by omega, h⟩
      · exact ⟨j, by omega, by omega, h3⟩
    · rintro ⟨j, h1, h2, h3⟩
      by_cases e : j = i
      · subst e; exact .inl h3
      · exact .inr ⟨j, by omega, by omega, h3⟩
end Go.Proofs.YtjgijaocinpkhaaDoor.XT

namespace Go.Proofs.YtjgijaocinpkhaaDoor.XT
set_option linter.unusedVariables false
set_option linter.unusedSimpArgs false
open Go Go.RowKit Go.Proofs.YtjgijaocinpkhaaDoorW.PrintWords Go.Proofs.YtjgijaocinpkhaaDoorB
end Go.Proofs.YtjgijaocinpkhaaDoor.XT

namespace Go.Proofs.YtjgijaocinpkhaaDoor.XT
set_option linter.unusedVariables false
set_option linter.unusedSimpArgs false
open Go Go.RowKit Go.Proofs.YtjgijaocinpkhaaDoorW.PrintWords Go.Proofs.YtjgijaocinpkhaaDoorB

/-- where the stone of a place goes in a direction, if it can -/
def bgo (a : ByteArray) (o b l : Bool) (i : Nat) (d : Int) : Option Int :=
  if (bt a (i : Int) = 84 ∨ bt a (i : Int) = 70) ∧ ((bt a (i : Int) = 84 ↔ d = 1) ∨ b = true) then (match impl_goalBy.f 200 a (i : Int) d o b l with | some (t, true) => some t | _ => none) else none
theorem jmp_46 {o : Bool} {c : Int} (hc : c = 84 ∨ c = 70) : jmp o c 46 = false := by
  unfold jmp oth
  rcases hc with rfl | rfl <;> cases o <;> decide
theorem bgo_iff (a : ByteArray) (hs : a.size ≤ 100) (o b l : Bool) (i : Nat) (hi : i < a.size) (d : Int) (hd : d = 1 ∨ d = -1) (t : Int) :
    bgo a o b l i d = some t ↔ (bt a (i : Int) = 84 ∨ bt a (i : Int) = 70) ∧ ((bt a (i : Int) = 84 ↔ d = 1) ∨ b = true) ∧ ∃ m : Nat, 1 ≤ m ∧ t = (i : Int) + d * (m : Int) ∧ (∀ j : Nat, 1 ≤ j → j < m → jmp o (bt a i) (sg a ((i : Int) + d * (j : Int))) = true) ∧ sg a t = 46 ∧ (m ≤ 2 ∨ l = true) := by
  unfold bgo
  by_cases h : (bt a (i : Int) = 84 ∨ bt a (i : Int) = 70) ∧ ((bt a (i : Int) = 84 ↔ d = 1) ∨ b = true)
  case neg =>
    rw [if_neg h]
    exact ⟨(fun h1 => nomatch h1), fun h1 => absurd ⟨h1.1, h1.2.1⟩ h⟩
  rw [if_pos h]
  obtain ⟨M, h1, h2, h3, h4, h5⟩ := goalBy_eq a hs i hi h.1 d hd o b l
  rw [h5 200 (by omega)]
  constructor
  · intro h6
    by_cases q : sg a ((i : Int) + d * (M : Int)) = 46 ∧ (M ≤ 2 ∨ l = true)
    · rw [decide_eq_true q] at h6
      simp only [Option.some.injEq] at h6
      subst h6
      exact ⟨h.1, h.2, M, h1, rfl, h3, q.1, q.2⟩
    · rw [decide_eq_false q] at h6
      cases h6
  · rintro ⟨_, _, m, m1, rfl, m3, m4, m5⟩
    have e : m = M := by
      rcases Nat.lt_trichotomy m M with g | g | g
      · have := h3 m m1 g
        rw [m4, jmp_46 h.1] at this
        cases this
      · exact g
      · have := m3 M h1 g
        rw [h4] at this
        cases this
    subst e
    rw [decide_eq_true ⟨m4, m5⟩]
def bcan (a : ByteArray) (o b l : Bool) (f t : Int) : Bool := decide (0 ≤ f ∧ f < (a.size : Int)) && (bgo a o b l f.toNat (-1) == some t || bgo a o b l f.toNat 1 == some t)
def allJ (a : ByteArray) (o : Bool) (i : Nat) (d : Int) : Nat → Nat → Bool
  | 0, _ => true
  | e + 1, m => jmp o (bt a i) (sg a ((i : Int) + d * (m : Int))) && allJ a o i d e (m + 1)
theorem allJ_iff (a : ByteArray) (o : Bool) (i : Nat) (d : Int) : ∀ (e m : Nat), allJ a o i d e m = true ↔ ∀ j : Nat, m ≤ j → j < m + e → jmp o (bt a i) (sg a ((i : Int) + d * (j : Int))) = true
  | 0, m => by
    refine ⟨fun _ j h1 h2 => by omega, fun _ => rfl⟩
  | e + 1, m => by
    rw [allJ, Bool.and_eq_true, allJ_iff a o i d e (m + 1)]
    constructor
    · rintro ⟨h1, h2⟩ j g1 g2
      by_cases q : j = m
      · subst q; exact h1
      · exact h2 j (by omega) (by omega)
    · intro h
      exact ⟨h m (by omega) (by omega), fun j g1 g2 => h j (by omega) (by omega)⟩
theorem sgn_three {a : ByteArray} (h : a.data.toList.all sgn = true) {i : Int} (h0 : 0 ≤ i) (h1 : i < (a.size : Int)) : bt a i = 84 ∨ bt a i = 70 ∨ bt a i = 46 := by
  obtain ⟨n, rfl⟩ : ∃ n : Nat, i = (n : Int) := ⟨i.toNat, by omega⟩
  obtain ⟨c, hd, hb⟩ := bt_eq a n (by omega)
  have hc : c ∈ a.data.toList := List.mem_of_mem_drop (by rw [hd]; exact List.mem_cons_self)
  have h2 := List.all_eq_true.1 h c hc
  unfold sgn at h2
  simp only [Bool.or_eq_true, beq_iff_eq] at h2
  rw [hb]
  rcases h2 with (rfl | rfl) | rfl <;> decide
theorem jmp_sgn {o : Bool} {c x : Int} (hc : c = 84 ∨ c = 70) (hx : x = 84 ∨ x = 70 ∨ x = 46) : jmp o c x = if x = 46 then false else if x = c then o else true := by
  unfold jmp oth
  rcases hc with rfl | rfl <;> rcases hx with rfl | rfl | rfl <;> cases o <;> decide
theorem wd1 {d : Int} (hd : d = 1 ∨ d = -1) {m : Nat} (hm : m ≤ 100) : wrap64 ((m : Int) * d) = d * (m : Int) := by rcases hd with rfl | rfl <;> (rw [w64 (by omega) (by omega)]; omega)
theorem wd2 {d : Int} (hd : d = 1 ∨ d = -1) {m i : Nat} (hm : m ≤ 100) (hi : i ≤ 100) : wrap64 ((i : Int) + d * (m : Int)) = (i : Int) + d * (m : Int) := by rcases hd with rfl | rfl <;> exact w64 (by omega) (by omega)
theorem wd3 {m : Nat} (hm : m ≤ 100) : wrap64 ((m : Int) + 1) = ((m + 1 : Nat) : Int) := by rw [w64 (by omega) (by omega)]; rfl
theorem ruCan_l0 (a : ByteArray) (hs : a.size ≤ 100) (hl : a.data.toList.all sgn = true) (i : Nat) (hi : i < a.size) (hc : bt a (i : Int) = 84 ∨ bt a (i : Int) = 70) (d : Int) (hd : d = 1 ∨ d = -1) (n : Nat) (t : Int) (ht : t = (i : Int) + d * (n : Int)) (t0 : 0 ≤ t) (t1 : t < (a.size : Int)) (o b l : Bool) :
    ∀ (e m k : Nat), 1 ≤ m → m + e = n → e < k → spec_ruCan.l0 k a d (n : Int) (m : Int) (i : Int) t o b l = some (allJ a o i d e m) := by
  intro e
  induction e with
  | zero =>
    intro m k h1 hm hk
    obtain ⟨k, rfl⟩ : ∃ q, k = q + 1 := ⟨k - 1, by omega⟩
    simp only [spec_ruCan.l0]
    rw [if_neg (by omega), allJ]
  | succ e ih =>
    intro m k h1 hm hk
    obtain ⟨k, rfl⟩ : ∃ q, k = q + 1 := ⟨k - 1, by omega⟩
    have hn : n ≤ 100 := by rcases hd with rfl | rfl <;> omega
    have g0 : 0 ≤ (i : Int) + d * (m : Int) := by rcases hd with rfl | rfl <;> omega
    have g1 : (i : Int) + d * (m : Int) < (a.size : Int) := by rcases hd with rfl | rfl <;> omega
    have step := ih (m + 1) k (by omega) (by omega) (by omega)
    have g2 := sgn_three hl g0 g1
    have z0 : (m : Int) < (n : Int) := by omega
    have z1 : (0 : Int) ≤ (i : Int) := by omega
    have z2 : (i : Int) < (a.size : Int) := by omega
    have m1 : m ≤ 100 := by omega
    have i1 : i ≤ 100 := by omega
    have w1 := wd1 hd m1
    have w2 := wd2 hd m1 i1
    have w3 := wd3 m1
    simp only [spec_ruCan.l0]
    rw [w1, w2, w3, if_pos z0, if_pos g0, if_pos g1, allJ, sg_in g0 g1, jmp_sgn hc g2]
    by_cases q1 : bt a ((i : Int) + d * (m : Int)) = 46
    · rw [if_pos q1, if_pos q1, Bool.false_and]
    · rw [if_neg q1, if_neg q1, if_pos z1, if_pos z2]
      by_cases q2 : bt a ((i : Int) + d * (m : Int)) = bt a (i : Int)
      · rw [if_pos q2, if_pos q2]
        cases o with
        | true => rw [if_pos rfl, step, Bool.true_and]
        | false => rw [if_neg (by decide), Bool.false_and]
      · rw [if_neg q2, if_neg q2, step, Bool.true_and]
theorem ruCan_dir (a : ByteArray) (hs : a.size ≤ 100) (hl : a.data.toList.all sgn = true) (i : Nat) (hi : i < a.size) (hc : bt a (i : Int) = 84 ∨ bt a (i : Int) = 70) (d : Int) (hd : d = 1 ∨ d = -1) (n : Nat) (hn : 1 ≤ n) (t : Int) (ht : t = (i : Int) + d * (n : Int)) (t0 : 0 ≤ t) (t1 : t < (a.size : Int)) (h46 : bt a t = 46) (o b l : Bool) (k : Nat) (hk : 110 ≤ k) :
    spec_ruCan.j1 k a d (i : Int) t o b l = some (bgo a o b l i d == some t) := by
  obtain ⟨k, rfl⟩ : ∃ q, k = q + 3 := ⟨k - 3, by omega⟩
  have hn2 : n ≤ 100 := by rcases hd with rfl | rfl <;> omega
  have w1 : wrap64 (wrap64 (t - (i : Int)) * d) = (n : Int) := by subst ht; rcases hd with rfl | rfl <;> (rw [w64 (x := _ - _) (by omega) (by omega), w64 (by omega) (by omega)]; omega)
  have z1 : (0 : Int) ≤ (i : Int) := by omega
  have z2 : (i : Int) < (a.size : Int) := by omega
  have loop := ruCan_l0 a hs hl i hi hc d hd n t ht t0 t1 o b l (n - 1) 1 k (by omega) (by omega) (by omega)
  have loop : spec_ruCan.l0 k a d (n : Int) 1 (i : Int) t o b l = some (allJ a o i d (n - 1) 1) := loop
  have hbg : (bgo a o b l i d == some t) = ((decide (bt a (i : Int) = 84 ↔ d = 1) || b) && ((decide (n ≤ 2) || l) && allJ a o i d (n - 1) 1)) := by
    rw [Bool.eq_iff_iff, beq_iff_eq, bgo_iff a hs o b l i hi d hd t, Bool.and_eq_true, Bool.and_eq_true, Bool.or_eq_true, Bool.or_eq_true, decide_eq_true_eq, decide_eq_true_eq, allJ_iff]
    constructor
    · rintro ⟨_, h2, m, m1, m2, m3, _, m5⟩
      have e : m = n := by subst ht; rcases hd with rfl | rfl <;> omega
      subst e
      exact ⟨h2, m5, fun j g1 g2 => m3 j g1 (by omega)⟩
    · rintro ⟨h2, h5, h3⟩
      exact ⟨hc, h2, n, hn, ht, fun j g1 g2 => h3 j g1 (by omega), (sg_in t0 t1).trans h46, h5⟩
  have hcond : ((bt a (i : Int) == 84) != decide (d > 0)) = !decide (bt a (i : Int) = 84 ↔ d = 1) := by
    rcases hc with h | h <;> rcases hd with rfl | rfl <;> simp [h]
  rw [hbg]
  simp only [spec_ruCan.j1, spec_ruCan.j2, spec_ruCan.j3]
  rw [if_pos z1, if_pos z2, hcond, w1, loop]
  have hgt : ((n : Int) > 2) ↔ ¬ n ≤ 2 := by omega
  generalize allJ a o i d (n - 1) 1 = A
  by_cases q2 : n ≤ 2
  · rw [if_neg (fun h => hgt.1 h q2), decide_eq_true q2]
    cases decide (bt a (i : Int) = 84 ↔ d = 1) <;> cases b <;> cases l <;> cases A <;> rfl
  · rw [if_pos (hgt.2 q2), decide_eq_false q2]
    cases decide (bt a (i : Int) = 84 ↔ d = 1) <;> cases b <;> cases l <;> cases A <;> rfl
theorem bgo_in {a : ByteArray} (hs : a.size ≤ 100) {o b l : Bool} {i : Nat} (hi : i < a.size) {d : Int} (hd : d = 1 ∨ d = -1) {t : Int} (h : bgo a o b l i d = some t) : 0 ≤ t ∧ t < (a.size : Int) ∧ bt a t = 46 ∧ (bt a (i : Int) = 84 ∨ bt a (i : Int) = 70) ∧ (d = 1 → (i : Int) < t) ∧ (d = -1 → t < (i : Int)) := by
  obtain ⟨h1, _, m, m1, m2, _, m4, _⟩ := (bgo_iff a hs o b l i hi d hd t).1 h
  obtain ⟨g0, g1, g2⟩ := sg_is m4 (by decide)
  exact ⟨g0, g1, g2, h1, fun e => by subst e; omega, fun e => by subst e; omega⟩
theorem ruCan_eq (a : ByteArray) (hs1 : 1 ≤ a.size) (hs : a.size ≤ 10) (hl : a.data.toList.all sgn = true) (f t : Int) (o b l : Bool) (k : Nat) (hk : 120 ≤ k) : spec_ruCan.f k a f t o b l = some (bcan a o b l f t) := by
  obtain ⟨k, rfl⟩ : ∃ m, k = m + 1 := ⟨k - 1, by omega⟩
  unfold spec_ruCan.f
  have e : wrap64 ((a.size : Int) - 1) = (a.size : Int) - 1 := w64 (by omega) (by omega)
  rw [e, l1In_eq, l1In_eq]
  simp only [Option.bind_some, spec_ruCan.j0]
  by_cases hf : 0 ≤ f ∧ f ≤ (a.size : Int) - 1
  case neg =>
    unfold bcan
    rw [if_neg (by simp; omega), if_pos trivial, decide_eq_false (fun h => hf ⟨h.1, by omega⟩), Bool.false_and]
  obtain ⟨i, rfl⟩ : ∃ i : Nat, f = (i : Int) := ⟨f.toNat, by omega⟩
  have hi : i < a.size := by omega
  have f1 : (i : Int) < (a.size : Int) := by omega
  have hb : bcan a o b l (i : Int) t = (bgo a o b l i (-1) == some t || bgo a o b l i 1 == some t) := by
    unfold bcan
    rw [decide_eq_true (show 0 ≤ (i : Int) ∧ (i : Int) < (a.size : Int) from ⟨hf.1, f1⟩), Bool.true_and, Int.toNat_natCast]
  have no : ∀ (P : Prop), (0 ≤ t → t < (a.size : Int) → bt a t = 46 → (bt a (i : Int) = 84 ∨ bt a (i : Int) = 70) → False) → bcan a o b l (i : Int) t = false := by
    intro _ h
    rw [hb, Bool.or_eq_false_iff, beq_eq_false_iff_ne, beq_eq_false_iff_ne]
    refine ⟨fun h2 => ?_, fun h2 => ?_⟩
    · obtain ⟨g0, g1, g2, g3, _⟩ := bgo_in (by omega) hi (.inr rfl) h2
      exact h g0 g1 g2 g3
    · obtain ⟨g0, g1, g2, g3, _⟩ := bgo_in (by omega) hi (.inl rfl) h2
      exact h g0 g1 g2 g3
  rw [if_pos (by simp; omega)]
  by_cases ht : 0 ≤ t ∧ t ≤ (a.size : Int) - 1
  case neg =>
    rw [if_neg (by simp; omega), if_pos trivial, no True (fun g0 g1 _ _ => ht ⟨g0, by omega⟩)]
  have t1 : t < (a.size : Int) := by omega
  rw [if_pos (by simp; omega), if_pos hf.1, if_pos f1]
  by_cases q1 : bt a (i : Int) = 46
  · rw [if_pos q1, if_pos trivial, no True (fun _ _ _ g => by omega)]
  rw [if_neg q1, if_pos ht.1, if_pos t1]
  have hc : bt a (i : Int) = 84 ∨ bt a (i : Int) = 70 := by
    rcases sgn_three hl hf.1 f1 with h | h | h
    · exact .inl h
    · exact .inr h
    · exact absurd h q1
  by_cases q2 : bt a t = 46
  case neg =>
    rw [if_pos (by simpa using q2), no True (fun _ _ g _ => q2 g)]
  rw [if_neg (by simp [q2]), hb]
  have hne : t ≠ (i : Int) := fun h => by rw [h] at q2; exact q1 q2
  by_cases q3 : t < (i : Int)
  · rw [if_pos q3, ruCan_dir a (by omega) hl i hi hc (-1) (.inr rfl) (i - t.toNat) (by omega) t (by omega) ht.1 t1 q2 o b l k (by omega)]
    have : (bgo a o b l i 1 == some t) = false := by
      rw [beq_eq_false_iff_ne]
      intro h
      have := (bgo_in (by omega) hi (.inl rfl) h).2.2.2.2.1 rfl
      omega
    rw [this, Bool.or_false]
  · rw [if_neg q3, ruCan_dir a (by omega) hl i hi hc 1 (.inl rfl) (t.toNat - i) (by omega) t (by omega) ht.1 t1 q2 o b l k (by omega)]
    have : (bgo a o b l i (-1) == some t) = false := by
      rw [beq_eq_false_iff_ne]
      intro h
      have := (bgo_in (by omega) hi (.inr rfl) h).2.2.2.2.2 rfl
      omega
    rw [this, Bool.false_or]
end Go.Proofs.YtjgijaocinpkhaaDoor.XT

namespace Go.Proofs.YtjgijaocinpkhaaDoor.XT
set_option linter.unusedVariables false
set_option linter.unusedSimpArgs false
open Go Go.RowKit Go.Proofs.YtjgijaocinpkhaaDoorW.PrintWords Go.Proofs.YtjgijaocinpkhaaDoorB

def opt (i : Nat) (t : Option Int) : List S83 := match t with | some t => [⟨(i : Int), t⟩] | none => []
theorem opt_length (i : Nat) (t : Option Int) : (opt i t).length ≤ 1 := by unfold opt; split <;> simp
def bmove (a : ByteArray) (o b l : Bool) (i : Nat) : List S83 := opt i (bgo a o b l i (-1)) ++ opt i (bgo a o b l i 1)
theorem bmove_length (a : ByteArray) (o b l : Bool) (i : Nat) : (bmove a o b l i).length ≤ 2 := by
  have h1 := opt_length i (bgo a o b l i (-1))
  have h2 := opt_length i (bgo a o b l i 1)
  unfold bmove
  rw [List.length_append]
  omega
/-- the moves that a rule allows -/
def bmoves (a : ByteArray) (o b l : Bool) : List S83 := each (bmove a o b l) (min a.size 50) 0
theorem bmoves_length (a : ByteArray) (o b l : Bool) : (bmoves a o b l).length ≤ 100 := by
  have := each_length (bmove a o b l) 2 (bmove_length a o b l) (min a.size 50) 0
  unfold bmoves
  omega
theorem bmoves_mem (a : ByteArray) (hs : a.size ≤ 50) (o b l : Bool) (f t : Int) : (⟨f, t⟩ : S83) ∈ bmoves a o b l ↔ bcan a o b l f t = true := by
  unfold bmoves bcan
  rw [each_mem]
  simp only [Bool.and_eq_true, decide_eq_true_eq, Bool.or_eq_true, beq_iff_eq]
  have ho : ∀ (i : Nat) (x : Option Int), (⟨f, t⟩ : S83) ∈ opt i x ↔ f = (i : Int) ∧ x = some t := by
    intro i x
    unfold opt
    cases x with
    | none => simp
    | some y =>
      simp only [List.mem_singleton, S83.mk.injEq, Option.some.injEq]
      exact ⟨fun h => ⟨h.1, h.2.symm⟩, fun h => ⟨h.1, h.2.symm⟩⟩
  constructor
  · rintro ⟨j, _, h2, h3⟩
    unfold bmove at h3
    rw [List.mem_append, ho, ho] at h3
    rcases h3 with ⟨rfl, h⟩ | ⟨rfl, h⟩
    · exact ⟨⟨by omega, by omega⟩, .inl (by rw [Int.toNat_natCast]; exact h)⟩
    · exact ⟨⟨by omega, by omega⟩, .inr (by rw [Int.toNat_natCast]; exact h)⟩
  · rintro ⟨⟨h0, h1⟩, h2⟩
    refine ⟨f.toNat, by omega, by omega, ?_⟩
    unfold bmove
    rw [List.mem_append, ho, ho]
    rcases h2 with h2 | h2
    · exact .inl ⟨by omega, h2⟩
    · exact .inr ⟨by omega, h2⟩
theorem bcan_in {a : ByteArray} (hs : a.size ≤ 100) {o b l : Bool} {f t : Int} (h : bcan a o b l f t = true) : 0 ≤ f ∧ f < (a.size : Int) ∧ 0 ≤ t ∧ t < (a.size : Int) ∧ f ≠ t := by
  unfold bcan at h
  simp only [Bool.and_eq_true, decide_eq_true_eq, Bool.or_eq_true, beq_iff_eq] at h
  obtain ⟨⟨f0, f1⟩, h⟩ := h
  rcases h with h | h
  · obtain ⟨g0, g1, _, _, _, g⟩ := bgo_in hs (by omega) (.inr rfl) h
    have := g rfl
    exact ⟨f0, f1, g0, g1, by omega⟩
  · obtain ⟨g0, g1, _, _, g, _⟩ := bgo_in hs (by omega) (.inl rfl) h
    have := g rfl
    exact ⟨f0, f1, g0, g1, by omega⟩
/-- one direction of the program's loop -/
theorem movesBy_dir (a : ByteArray) (hs : a.size ≤ 100) (i : Nat) (hi : i < a.size) (o b l : Bool) (q : Nat) (hq : q < 2) (d : Int) (hd : d = 1 ∨ d = -1) (hy : rd ([-1, 1] : List Int) (q : Int) = d) (acc : List S83) (ha : acc.length ≤ 1000) (k : Nat) (hk : 300 ≤ k) (R : List S83)
    (H : ∀ acc' k', acc'.length ≤ acc.length + 1 → k ≤ k' + 2 → k' ≤ k → impl_movesBy.l1 k' a acc' (i : Int) (a.size : Int) (i : Int) [-1, 1] 2 ((q + 1 : Nat) : Int) o b l = some (acc' ++ R)) :
    impl_movesBy.l1 k a acc (i : Int) (a.size : Int) (i : Int) [-1, 1] 2 (q : Int) o b l = some (acc ++ (opt i (bgo a o b l i d) ++ R)) := by
  obtain ⟨k, rfl⟩ : ∃ m, k = m + 2 := ⟨k - 2, by omega⟩
  have z1 : (q : Int) < 2 := by omega
  have z2 : (0 : Int) ≤ (q : Int) := by omega
  have z3 : (0 : Int) ≤ (i : Int) := by omega
  have z4 : (i : Int) < (a.size : Int) := by omega
  have z5 : acc.length < 8796093022208 := by omega
  have w : wrap64 ((q : Int) + 1) = ((q + 1 : Nat) : Int) := by rw [w64 (by omega) (by omega)]; rfl
  have skip := H acc k (by omega) (by omega) (by omega)
  have add := fun t : Int => H (acc ++ [⟨(i : Int), t⟩]) k (by rw [List.length_append]; simp) (by omega) (by omega)
  have none_ : bgo a o b l i d = none → some (acc ++ R) = some (acc ++ (opt i (bgo a o b l i d) ++ R)) := fun h => by rw [h]; rfl
  simp only [impl_movesBy.l1, impl_movesBy.j2]
  rw [if_pos z1, if_pos z2, if_pos (show (q : Int) < (([-1, 1] : List Int).length : Int) from z1), if_pos z3, if_pos z4, hy, w, skip]
  unfold impl_stepOf.f
  by_cases hc : bt a (i : Int) = 84 ∨ bt a (i : Int) = 70
  case neg =>
    rw [if_neg (fun h => hc (.inl h)), if_neg (fun h => hc (.inr h))]
    simp only [Option.bind_some, if_true]
    exact none_ (by unfold bgo; rw [if_neg (fun h => hc h.1)])
  obtain ⟨M, h1, h2, h3, h4, h5⟩ := goalBy_eq a hs i hi hc d hd o b l
  have main : ((impl_goalBy.f k a (i : Int) d o b l).bind fun bt277 => (if bt277.2 = true then (if acc.length < 8796093022208 then (impl_movesBy.l1 k a (acc ++ [(⟨(i : Int), bt277.1⟩ : S83)]) (i : Int) (a.size : Int) (i : Int) [-1, 1] 2 ((q + 1 : Nat) : Int) o b l) else (none)) else some (acc ++ R))) = some (acc ++ ((match impl_goalBy.f 200 a (i : Int) d o b l with | some (t, true) => opt i (some t) | _ => []) ++ R)) := by
    rw [h5 k (by omega), h5 200 (by omega)]
    simp only [Option.bind_some]
    by_cases q1 : sg a ((i : Int) + d * (M : Int)) = 46 ∧ (M ≤ 2 ∨ l = true)
    · rw [decide_eq_true q1, if_pos rfl, if_pos z5, add, List.append_assoc]
      rfl
    · rw [decide_eq_false q1, if_neg (by decide)]
      rfl
  have yes : ((bt a (i : Int) = 84 ↔ d = 1) ∨ b = true) → some (acc ++ ((match impl_goalBy.f 200 a (i : Int) d o b l with | some (t, true) => opt i (some t) | _ => []) ++ R)) = some (acc ++ (opt i (bgo a o b l i d) ++ R)) := by
    intro h
    unfold bgo
    rw [if_pos ⟨hc, h⟩, h5 200 (by omega)]
    cases decide (sg a ((i : Int) + d * (M : Int)) = 46 ∧ (M ≤ 2 ∨ l = true)) <;> rfl
  have hne : ¬ ((bt a (i : Int) = 84 ↔ d = 1) ∨ b = true) → bgo a o b l i d = none := fun h => by unfold bgo; rw [if_neg (fun h2 => h h2.2)]
  by_cases c84 : bt a (i : Int) = 84
  · rw [if_pos c84]
    simp only [Option.bind_some]
    rw [if_neg (by decide)]
    rcases hd with rfl | rfl
    · rw [if_pos rfl, if_neg (by decide), main, yes (.inl (by simp [c84]))]
    · rw [if_neg (by decide)]
      cases b with
      | true => rw [if_neg (by decide), main, yes (.inr rfl)]
      | false => rw [if_pos (show (!false) = true from rfl), none_ (hne (by simp [c84]))]
  · rw [if_neg c84, if_pos (hc.resolve_left c84)]
    simp only [Option.bind_some]
    rw [if_neg (by decide)]
    rcases hd with rfl | rfl
    · rw [if_neg (by decide)]
      cases b with
      | true => rw [if_neg (by decide), main, yes (.inr rfl)]
      | false => rw [if_pos (show (!false) = true from rfl), none_ (hne (by simp [c84]))]
    · rw [if_pos rfl, if_neg (by decide), main, yes (.inl (by simp [c84]))]
theorem movesBy_l0 (a : ByteArray) (hs : a.size ≤ 50) (o b l : Bool) : ∀ (d i : Nat) (acc : List S83) (k : Nat), i + d = a.size → acc.length + 2 * d ≤ 200 → d * 10 + 400 ≤ k → impl_movesBy.l0 k a acc (a.size : Int) (i : Int) o b l = some (acc ++ each (bmove a o b l) d i) := by
  intro d
  induction d with
  | zero =>
    intro i acc k hi ha hk
    obtain ⟨k, rfl⟩ : ∃ m, k = m + 1 := ⟨k - 1, by omega⟩
    simp only [impl_movesBy.l0]
    rw [if_neg (by omega), each, List.append_nil]
  | succ d ih =>
    intro i acc k hi ha hk
    obtain ⟨k, rfl⟩ : ∃ m, k = m + 1 := ⟨k - 1, by omega⟩
    simp only [impl_movesBy.l0]
    rw [if_pos (by omega)]
    simp only [Option.bind_some]
    rw [each, bmove, List.append_assoc]
    refine movesBy_dir a (by omega) i (by omega) o b l 0 (by omega) (-1) (.inr rfl) rfl acc (by omega) k (by omega) _ fun acc1 k1 h1 h2 h3 => ?_
    refine movesBy_dir a (by omega) i (by omega) o b l 1 (by omega) 1 (.inl rfl) rfl acc1 (by omega) k1 (by omega) _ fun acc2 k2 g1 g2 g3 => ?_
    obtain ⟨k2, rfl⟩ : ∃ m, k2 = m + 1 := ⟨k2 - 1, by omega⟩
    have w : wrap64 ((i : Int) + 1) = ((i + 1 : Nat) : Int) := by rw [w64 (by omega) (by omega)]; rfl
    simp only [impl_movesBy.l1]
    rw [if_neg (by decide), w]
    exact ih (i + 1) acc2 k2 (by omega) (by omega) (by omega)
theorem movesBy_eq (a : ByteArray) (hs1 : 1 ≤ a.size) (hs : a.size ≤ 10) (hl : a.data.toList.all sgn = true) (o b l : Bool) (k : Nat) (hk : 1000 ≤ k) : impl_movesBy.f k a o b l = some (bmoves a o b l) := by
  have h := movesBy_l0 a (by omega) o b l a.size 0 [] k (by omega) (by simp; omega) (by omega)
  unfold impl_movesBy.f bmoves
  rw [show min a.size 50 = a.size from by omega]
  exact h
theorem collect_bmove (a : ByteArray) (hs : a.size ≤ 100) (o b l : Bool) (i : Nat) (hi : i < a.size) : collect (bcan a o b l (i : Int)) (i : Int) a.size 0 = bmove a o b l i := by
  have f1 : 0 ≤ (i : Int) ∧ (i : Int) < (a.size : Int) := by omega
  have hb : ∀ t, bcan a o b l (i : Int) t = (bgo a o b l i (-1) == some t || bgo a o b l i 1 == some t) := fun t => by
    unfold bcan
    rw [decide_eq_true f1, Bool.true_and, Int.toNat_natCast]
  obtain ⟨e, he⟩ : ∃ e, a.size = i + e := ⟨a.size - i, by omega⟩
  rw [he, collect_split, Nat.zero_add]
  unfold bmove
  congr 1
  · have hno : ∀ t : Nat, t < i → (bgo a o b l i 1 == some (t : Int)) = false := fun t ht => by
      rw [beq_eq_false_iff_ne]
      intro h
      have := (bgo_in hs hi (.inl rfl) h).2.2.2.2.1 rfl
      omega
    cases hg : bgo a o b l i (-1) with
    | none => exact collect_none _ _ _ _ (fun t _ h => by rw [hb, hg, hno t (by omega)]; rfl)
    | some g =>
      obtain ⟨g0, g1, _, _, _, g2⟩ := bgo_in hs hi (.inr rfl) hg
      have g2 := g2 rfl
      obtain ⟨m, rfl⟩ : ∃ m : Nat, g = (m : Int) := ⟨g.toNat, by omega⟩
      refine collect_one _ _ _ _ m (by omega) (by omega) (fun t _ h => ?_)
      rw [hb, hg, hno t (by omega), Bool.or_false, beq_iff_eq, Option.some.injEq]
      omega
  · have hno : ∀ t : Nat, i ≤ t → (bgo a o b l i (-1) == some (t : Int)) = false := fun t ht => by
      rw [beq_eq_false_iff_ne]
      intro h
      have := (bgo_in hs hi (.inr rfl) h).2.2.2.2.2 rfl
      omega
    cases hg : bgo a o b l i 1 with
    | none => exact collect_none _ _ _ _ (fun t h _ => by rw [hb, hg, hno t (by omega)]; rfl)
    | some g =>
      obtain ⟨g0, g1, _, _, g2, _⟩ := bgo_in hs hi (.inl rfl) hg
      have g2 := g2 rfl
      obtain ⟨m, rfl⟩ : ∃ m : Nat, g = (m : Int) := ⟨g.toNat, by omega⟩
      refine collect_one _ _ _ _ m (by omega) (by omega) (fun t h _ => ?_)
      rw [hb, hg, hno t (by omega), Bool.false_or, beq_iff_eq, Option.some.injEq]
      omega
end Go.Proofs.YtjgijaocinpkhaaDoor.XT

namespace Go.Proofs.YtjgijaocinpkhaaDoor.XT
set_option linter.unusedVariables false
set_option linter.unusedSimpArgs false
open Go Go.RowKit Go.Proofs.YtjgijaocinpkhaaDoorW.PrintWords Go.Proofs.YtjgijaocinpkhaaDoorB

theorem reFew_eq (a : ByteArray) (hs : a.size ≤ 140737488351232) (k : Nat) (hk : 20 ≤ k) : spec_reFew.f k a = some (isLine 10 a) := by
  unfold spec_reFew.f
  rw [liGood_eq a hs k hk]
  simp only [Option.bind_some]
  unfold isLine
  by_cases h1 : a.size ≤ 10
  · rw [decide_eq_true h1, decide_eq_true (show a.size ≤ 12 by omega), decide_eq_true (show (a.size : Int) ≤ 10 by omega)]
    cases (decide (1 ≤ a.size) && (true && a.data.toList.all sgn)) <;> rfl
  · rw [decide_eq_false h1, decide_eq_false (show ¬ (a.size : Int) ≤ 10 by omega), Bool.false_and, Bool.and_false]
    split <;> rfl
theorem impl_isReachLine_eq (a : ByteArray) (hs : a.size ≤ 140737488351232) : impl_isReachLine.f a = some (isLine 10 a) := by
  unfold impl_isReachLine.f
  rw [show impl_isLineOf.f a 10 = some (isLine 10 a) from isLineOf_eq a 10 hs]
  rfl
end Go.Proofs.YtjgijaocinpkhaaDoor.XT

namespace Go.Proofs.YtjgijaocinpkhaaDoor.XT
set_option linter.unusedVariables false
set_option linter.unusedSimpArgs false
open Go Go.RowKit Go.Proofs.YtjgijaocinpkhaaDoorW.PrintWords Go.Proofs.YtjgijaocinpkhaaDoorB

theorem bt_lt' {a : ByteArray} (h : a.data.toList.all sgn = true) {i : Nat} (hi : i < a.size) : bt a (i : Int) < 128 := by
  rcases sgn_three h (i := (i : Int)) (by omega) (by omega) with h | h | h <;> omega
theorem ruMoves_l1 (a : ByteArray) (hs1 : 1 ≤ a.size) (hs : a.size ≤ 10) (hl : a.data.toList.all sgn = true) (o b l : Bool) (i : Nat) (R : List S83) (K M : Nat)
    (H : ∀ (acc : List S83) (k : Nat), acc.length + M ≤ 200 → K ≤ k → spec_ruMoves.l0 k a acc o b l ((i + 1 : Nat) : Int) a = some (acc ++ R)) :
    ∀ (e j k : Nat) (acc : List S83), j + e = a.size → e + K + 130 ≤ k → acc.length + e + M ≤ 200 → spec_ruMoves.l1 k a acc (i : Int) o b l ((i + 1 : Nat) : Int) a (j : Int) a = some (acc ++ (collect (bcan a o b l (i : Int)) (i : Int) e j ++ R)) := by
  intro e
  induction e with
  | zero =>
    intro j k acc hj hk hle
    obtain ⟨k, rfl⟩ : ∃ m, k = m + 1 := ⟨k - 1, by omega⟩
    simp only [spec_ruMoves.l1]
    rw [if_pos (by omega), if_neg (by omega), H acc k (by omega) (by omega), collect, List.nil_append]
  | succ e ih =>
    intro j k acc hj hk hle
    obtain ⟨k, rfl⟩ : ∃ m, k = m + 1 := ⟨k - 1, by omega⟩
    simp only [spec_ruMoves.l1]
    have w : ((j : Int) + 1) = ((j + 1 : Nat) : Int) := rfl
    have z : acc.length < 8796093022208 := by omega
    have t1 := ih (j + 1) k acc (by omega) (by omega) (by omega)
    have t2 := ih (j + 1) k (acc ++ [⟨(i : Int), (j : Int)⟩]) (by omega) (by omega) (by rw [List.length_append, List.length_singleton]; omega)
    rw [if_pos (by omega), if_pos (by omega), if_pos (bt_lt' hl (by omega)), ruCan_eq a hs1 hs hl _ _ o b l k (by omega), w, collect]
    simp only [Option.bind_some]
    by_cases h : bcan a o b l (i : Int) (j : Int) = true
    · rw [if_pos h, if_pos h, if_pos z, t2, List.append_assoc, List.append_assoc]
    · rw [if_neg h, if_neg h, t1, List.nil_append]
theorem ruMoves_l0 (a : ByteArray) (hs1 : 1 ≤ a.size) (hs : a.size ≤ 10) (hl : a.data.toList.all sgn = true) (o b l : Bool) : ∀ (d i : Nat), i + d = a.size → ∀ (acc : List S83) (k : Nat), acc.length + d * 10 ≤ 200 → d * 150 + 150 ≤ k →
    spec_ruMoves.l0 k a acc o b l (i : Int) a = some (acc ++ each (fun j => collect (bcan a o b l (j : Int)) (j : Int) a.size 0) d i) := by
  intro d
  induction d with
  | zero =>
    intro i hi acc k hle hk
    obtain ⟨k, rfl⟩ : ∃ m, k = m + 1 := ⟨k - 1, by omega⟩
    simp only [spec_ruMoves.l0]
    rw [if_pos (by omega), if_neg (by omega), each, List.append_nil]
  | succ d ih =>
    intro i hi acc k hle hk
    obtain ⟨k, rfl⟩ : ∃ m, k = m + 1 := ⟨k - 1, by omega⟩
    simp only [spec_ruMoves.l0]
    have H : ∀ (l' : List S83) (k : Nat), l'.length + d * 10 ≤ 200 → d * 150 + 150 ≤ k → spec_ruMoves.l0 k a l' o b l ((i + 1 : Nat) : Int) a = some (l' ++ each (fun j => collect (bcan a o b l (j : Int)) (j : Int) a.size 0) d (i + 1)) := ih (i + 1) (by omega)
    have w : ((i : Int) + 1) = ((i + 1 : Nat) : Int) := rfl
    rw [if_pos (by omega), if_pos (by omega), if_pos (bt_lt' hl (by omega)), w, each]
    exact ruMoves_l1 a hs1 hs hl o b l i _ (d * 150 + 150) (d * 10) H a.size 0 k acc (by omega) (by omega) (by omega)
theorem ruMoves_eq (a : ByteArray) (hs1 : 1 ≤ a.size) (hs : a.size ≤ 10) (hl : a.data.toList.all sgn = true) (o b l : Bool) (k : Nat) (hk : 1700 ≤ k) : spec_ruMoves.f k a o b l = some (bmoves a o b l) := by
  unfold spec_ruMoves.f bmoves
  have h := ruMoves_l0 a hs1 hs hl o b l a.size 0 (by omega) [] k (by simp; omega) (by omega)
  rw [each_congr _ (bmove a o b l) a.size 0 (fun j _ h => collect_bmove a (by omega) o b l j (by omega)), List.nil_append] at h
  rw [show min a.size 50 = a.size from by omega]
  exact h
end Go.Proofs.YtjgijaocinpkhaaDoor.XT

namespace Go.Proofs.YtjgijaocinpkhaaDoor.XT
set_option linter.unusedVariables false
set_option linter.unusedSimpArgs false
open Go Go.RowKit Go.Proofs.YtjgijaocinpkhaaDoorW.PrintWords Go.Proofs.YtjgijaocinpkhaaDoorB

theorem ba_eq {x y : ByteArray} (h : x.data.toList = y.data.toList) : x = y := by rw [← Lib.mk_data x, ← Lib.mk_data y, h]
theorem list_extract (a : ByteArray) (i j : Nat) : (a.extract i j).data.toList = (a.data.toList.drop i).take (j - i) := by
  simp
theorem list_append (x y : ByteArray) : (x ++ y).data.toList = x.data.toList ++ y.data.toList := by simp
/-- the text with the sign of one place moved to another -/
def mv (a : ByteArray) (f t : Int) : ByteArray := ⟨((a.data.toList.set t.toNat (a.data.toList.getD f.toNat 0)).set f.toNat 46).toArray⟩
theorem mv_size (a : ByteArray) (f t : Int) : (mv a f t).size = a.size := by
  unfold mv ByteArray.size
  simp
theorem liPut_eq (a : ByteArray) (hs : a.size ≤ 1000) (i : Nat) (hi : i < a.size) (c : UInt8) : spec_liPut.f a (i : Int) ⟨#[c]⟩ = some ⟨(a.data.toList.set i c).toArray⟩ := by
  unfold spec_liPut.f
  rw [w64_succ (n := a.size) hi (by omega), Int.toNat_natCast, Int.toNat_natCast]
  have s1 : (a.extract 0 i).size = i := by rw [ByteArray.size_extract]; omega
  have s2 : (⟨#[c]⟩ : ByteArray).size = 1 := rfl
  have s3 : (a.extract (i + 1) a.size).size = a.size - (i + 1) := by rw [ByteArray.size_extract]; omega
  rw [if_pos (by omega), if_pos (by omega), if_pos (by rw [s1, s2]; omega), if_pos (by omega), if_pos (by omega), if_pos (by rw [ByteArray.size_append, s1, s2, s3]; omega)]
  congr 1
  apply ba_eq
  have hl : i < a.data.toList.length := by rw [data_length]; exact hi
  rw [list_append, list_append, list_extract, list_extract, List.set_eq_take_append_cons_drop, if_pos hl, List.take_of_length_le (l := List.drop (i + 1) a.data.toList) (by rw [List.length_drop, data_length]; exact Nat.le_refl _)]
  simp
theorem extract_one (a : ByteArray) (i : Nat) (hi : i < a.size) : a.extract i (i + 1) = ⟨#[a.data.toList.getD i 0]⟩ := by
  apply ba_eq
  have hl : i < a.data.toList.length := by rw [data_length]; exact hi
  rw [list_extract, List.drop_eq_getElem_cons hl, show i + 1 - i = 1 from by omega, List.getD_eq_getElem?_getD, List.getElem?_eq_getElem hl]
  rfl
theorem liMake_eq (a : ByteArray) (hs : a.size ≤ 1000) (f t : Int) (f0 : 0 ≤ f) (f1 : f < (a.size : Int)) (t0 : 0 ≤ t) (t1 : t < (a.size : Int)) (ne : f ≠ t) : spec_liMake.f a f t = some (mv a f t) := by
  obtain ⟨i, rfl⟩ : ∃ i : Nat, f = (i : Int) := ⟨f.toNat, by omega⟩
  obtain ⟨j, rfl⟩ : ∃ j : Nat, t = (j : Int) := ⟨t.toNat, by omega⟩
  unfold spec_liMake.f mv
  rw [w64_succ (n := a.size) (by omega) (by omega), Int.toNat_natCast, Int.toNat_natCast, Int.toNat_natCast, if_pos (by omega), if_pos (by omega), if_pos (by omega), liPut_eq a hs i (by omega) 46, extract_one a i (by omega)]
  simp only [Option.bind_some]
  have e : (⟨(a.data.toList.set i 46).toArray⟩ : ByteArray).size = a.size := by unfold ByteArray.size; simp
  rw [liPut_eq _ (by omega) j (by omega)]
  simp only [Option.bind_some]
  congr 2
  rw [List.set_comm _ _ (show j ≠ i from by omega)]
theorem impl_made_eq (a : ByteArray) (hs : a.size ≤ 1000) (f t : Int) (f0 : 0 ≤ f) (f1 : f < (a.size : Int)) (t0 : 0 ≤ t) (t1 : t < (a.size : Int)) (ne : f ≠ t) : impl_made.f a f t = some (mv a f t) :=
  if_pos ⟨by omega, f0, f1, t0, t1, ne⟩
end Go.Proofs.YtjgijaocinpkhaaDoor.XT

namespace Go.Proofs.YtjgijaocinpkhaaDoor.XT
set_option linter.unusedVariables false
set_option linter.unusedSimpArgs false
open Go Go.RowKit Go.Proofs.YtjgijaocinpkhaaDoorW.PrintWords Go.Proofs.YtjgijaocinpkhaaDoorB Go.Proofs.YtjgijaocinpkhaaDoor.Pm Go.Proofs.YtjgijaocinpkhaaDoor.Srts

/-- lines of n signs -/
def lineN (n : Nat) (x : ByteArray) : Prop := x.size = n ∧ x.data.toList.all sgn = true
def words3 : Nat → List (List UInt8)
  | 0 => [[]]
  | n + 1 => (words3 n).flatMap fun w => [84 :: w, 70 :: w, 46 :: w]
theorem flat3_length {α β : Type} (f : α → List β) (h : ∀ x, (f x).length = 3) : ∀ l : List α, (l.flatMap f).length = 3 * l.length
  | [] => rfl
  | a :: l => by rw [List.flatMap_cons, List.length_append, h, flat3_length f h l, List.length_cons]; omega
theorem words3_length : ∀ n, (words3 n).length = 3 ^ n
  | 0 => rfl
  | n + 1 => by rw [words3, flat3_length _ (fun _ => rfl), words3_length n, Nat.pow_succ, Nat.mul_comm]
theorem mem_words3 : ∀ (n : Nat) (l : List UInt8), l.length = n → l.all sgn = true → l ∈ words3 n
  | 0, l, h, _ => by rw [List.length_eq_zero_iff.1 h]; exact List.mem_singleton.2 rfl
  | n + 1, [], h, _ => by simp at h
  | n + 1, c :: l, h, ha => by
    rw [List.all_cons, Bool.and_eq_true] at ha
    have ih := mem_words3 n l (by simpa using h) ha.2
    refine List.mem_flatMap.2 ⟨l, ih, ?_⟩
    have hc := ha.1
    unfold sgn at hc
    simp only [Bool.or_eq_true, beq_iff_eq] at hc
    rcases hc with (rfl | rfl) | rfl <;> simp
def allN (n : Nat) : List ByteArray := (words3 n).map fun l => ⟨l.toArray⟩
theorem allN_length (n : Nat) : (allN n).length = 3 ^ n := by unfold allN; rw [List.length_map, words3_length]
theorem allN_mem {n : Nat} {x : ByteArray} (h : lineN n x) : x ∈ allN n :=
  List.mem_map.2 ⟨x.data.toList, mem_words3 n _ (by rw [data_length]; exact h.1) h.2, Lib.mk_data x⟩
theorem lineN_most {n : Nat} (hn : n ≤ 10) {E : List PEnt} (hd : (Bfs.nodes E).Nodup) (hE : ∀ x ∈ Bfs.nodes E, lineN n x) : E.length ≤ 59049 := by
  have h := Bfs.nodup_le hd (fun x hx => allN_mem (hE x hx))
  rw [allN_length, show (Bfs.nodes E).length = E.length from List.length_map _] at h
  have h2 : 3 ^ n ≤ 3 ^ 10 := Nat.pow_le_pow_right (by decide) hn
  omega
/-- the neighbours of a text -/
def nbM (ms : ByteArray → List S83) (x : ByteArray) : List (S83 × ByteArray) := (ms x).map fun m => (m, mv x m.f0 m.f1)
theorem nodes_snoc (E : List PEnt) (e : PEnt) : Bfs.nodes (E ++ [e]) = Bfs.nodes E ++ [e.node] := by simp [Bfs.nodes]
theorem nodup_snoc {E : List PEnt} {e : PEnt} (h : (Bfs.nodes E).Nodup) (hn : e.node ∉ Bfs.nodes E) : (Bfs.nodes (E ++ [e])).Nodup := by
  rw [nodes_snoc]
  refine List.nodup_append.2 ⟨h, by simp, fun a ha b hb e' => ?_⟩
  rw [List.mem_singleton] at hb
  subst hb
  exact hn (e' ▸ ha)
theorem visit_nodup (i d : Nat) : ∀ (rest : List (S83 × ByteArray)) (E : List PEnt), (Bfs.nodes E).Nodup → (Bfs.nodes (Bfs.visit i d rest E)).Nodup
  | [], _, h => h
  | (m, y) :: rest, E, h => by
    unfold Bfs.visit
    split
    · exact visit_nodup i d rest E h
    · exact visit_nodup i d rest _ (nodup_snoc h (by assumption))
/-- no text lies deeper than its place -/
def Flat (E : List PEnt) : Prop := ∀ (j : Nat) (e : PEnt), E[j]? = some e → e.dep ≤ j
theorem visit_flat (i d : Nat) (hd : d ≤ i) : ∀ (rest : List (S83 × ByteArray)) (E : List PEnt), i < E.length → Flat E → Flat (Bfs.visit i d rest E)
  | [], _, _, h => h
  | (m, y) :: rest, E, hi, h => by
    unfold Bfs.visit
    split
    · exact visit_flat i d hd rest E hi h
    · refine visit_flat i d hd rest _ (by rw [List.length_append]; omega) (fun j e he => ?_)
      rcases Bfs.get_snoc he with he | ⟨rfl, rfl⟩
      · exact h j e he
      · show d + 1 ≤ E.length
        omega
theorem visitO_eq {n : Nat} (hn : n ≤ 10) (i d : Nat) (hd : d < 1000000) (x : ByteArray) : ∀ (l : List S83) (E : List PEnt), (∀ m ∈ l, impl_made.f x m.f0 m.f1 = some (mv x m.f0 m.f1) ∧ lineN n (mv x m.f0 m.f1)) → (∀ z ∈ Bfs.nodes E, lineN n z) → (Bfs.nodes E).Nodup →
    visitO i d x l E = some (Bfs.visit i d (l.map fun m => (m, mv x m.f0 m.f1)) E)
  | [], E, _, _, _ => rfl
  | m :: l, E, hl, hE, hnd => by
    obtain ⟨h1, h2⟩ := hl m List.mem_cons_self
    have hr := fun m' hm' => hl m' (List.mem_cons_of_mem _ hm')
    rw [visitO, h1, Option.bind_some, if_pos (by rw [h2.1]; omega), List.map_cons, Bfs.visit]
    by_cases hin : mv x m.f0 m.f1 ∈ Bfs.nodes E
    · rw [if_pos (inN_iff.2 hin), if_pos hin]
      exact visitO_eq hn i d hd x l E hr hE hnd
    · have hlen := lineN_most hn hnd hE
      rw [if_neg (fun h => hin (inN_iff.1 h)), if_neg hin, if_pos ⟨by omega, hd⟩]
      refine visitO_eq hn i d hd x l _ hr (fun z hz => ?_) (nodup_snoc hnd hin)
      rw [nodes_snoc, List.mem_append, List.mem_singleton] at hz
      rcases hz with hz | rfl
      · exact hE z hz
      · exact h2
theorem nb_line {n : Nat} {x : ByteArray} {l : List S83} (h : ∀ m ∈ l, lineN n (mv x m.f0 m.f1)) : ∀ p ∈ l.map (fun m => (m, mv x m.f0 m.f1)), lineN n p.2 := fun p hp => by
  obtain ⟨m, hm, rfl⟩ := List.mem_map.1 hp
  exact h m hm
theorem pathsO_eq {n : Nat} (hn : n ≤ 10) (M : ByteArray → Option (List S83)) (ms : ByteArray → List S83) (hM : ∀ x, lineN n x → M x = some (ms x) ∧ (ms x).length ≤ 1000000)
    (hm : ∀ x, lineN n x → ∀ m ∈ ms x, impl_made.f x m.f0 m.f1 = some (mv x m.f0 m.f1) ∧ lineN n (mv x m.f0 m.f1)) : ∀ (k i : Nat) (E : List PEnt), (∀ z ∈ Bfs.nodes E, lineN n z) → (Bfs.nodes E).Nodup → Flat E → pathsO M k i E = Bfs.bfs (nbM ms) k i E
  | 0, _, _, _, _, _ => rfl
  | k + 1, i, E, hE, hnd, hf => by
    rw [pathsO, Bfs.bfs]
    cases he : E[i]? with
    | none => rfl
    | some e =>
      simp only
      have hle := hE e.node (Bfs.mem_nodes.2 ⟨i, e, he, rfl⟩)
      have hi := Bfs.get_lt he
      have hd := hf i e he
      have hlen := lineN_most hn hnd hE
      obtain ⟨h1, h2⟩ := hM e.node hle
      rw [h1, Option.bind_some, if_pos h2, visitO_eq hn i e.dep (by omega) e.node (ms e.node) E (hm e.node hle) hE hnd, Option.bind_some]
      exact pathsO_eq hn M ms hM hm k (i + 1) _ (Bfs.visit_all i e.dep _ E hE (nb_line fun m hm' => (hm e.node hle m hm').2)) (visit_nodup i e.dep _ E hnd) (visit_flat i e.dep hd _ E hi hf)
theorem mv_all' {a : ByteArray} (h : a.data.toList.all sgn = true) (f t : Int) (f0 : 0 ≤ f) (f1 : f < (a.size : Int)) : (mv a f t).data.toList.all sgn = true := by
  have hf : f.toNat < a.data.toList.length := by rw [data_length]; omega
  unfold mv
  rw [List.all_eq_true] at h ⊢
  intro x hx
  have hx2 : x ∈ (a.data.toList.set t.toNat (a.data.toList.getD f.toNat 0)).set f.toNat 46 := by simpa using hx
  rcases List.mem_or_eq_of_mem_set hx2 with hx3 | rfl
  · rcases List.mem_or_eq_of_mem_set hx3 with hx4 | rfl
    · exact h x hx4
    · rw [List.getD_eq_getElem?_getD, List.getElem?_eq_getElem hf]
      exact h _ (List.getElem_mem hf)
  · rfl
end Go.Proofs.YtjgijaocinpkhaaDoor.XT

namespace Go.Proofs.YtjgijaocinpkhaaDoor.XT
set_option linter.unusedVariables false
set_option linter.unusedSimpArgs false
open Go Go.RowKit Go.Proofs.YtjgijaocinpkhaaDoorW.PrintWords Go.Proofs.YtjgijaocinpkhaaDoorB Go.Proofs.YtjgijaocinpkhaaDoor.Pm Go.Proofs.YtjgijaocinpkhaaDoor.Srts

theorem bmoves_line {n : Nat} (hn : n ≤ 10) {o b l : Bool} {x : ByteArray} (h : lineN n x) {m : S83} (hm : m ∈ bmoves x o b l) : impl_made.f x m.f0 m.f1 = some (mv x m.f0 m.f1) ∧ spec_liMake.f x m.f0 m.f1 = some (mv x m.f0 m.f1) ∧ lineN n (mv x m.f0 m.f1) := by
  obtain ⟨f, t⟩ := m
  have hs : x.size = n := h.1
  obtain ⟨f0, f1, t0, t1, ne⟩ := bcan_in (by omega) ((bmoves_mem x (by omega) o b l f t).1 hm)
  exact ⟨impl_made_eq x (by omega) f t f0 f1 t0 t1 ne, liMake_eq x (by omega) f t f0 f1 t0 t1 ne, by rw [← hs]; exact ⟨mv_size x f t, mv_all' h.2 f t f0 f1⟩⟩
end Go.Proofs.YtjgijaocinpkhaaDoor.XT

namespace Go.Proofs.YtjgijaocinpkhaaDoor.XT
set_option linter.unusedVariables false
set_option linter.unusedSimpArgs false
open Go Go.RowKit Go.Proofs.YtjgijaocinpkhaaDoorW.PrintWords Go.Proofs.YtjgijaocinpkhaaDoorB Go.Proofs.YtjgijaocinpkhaaDoor.Pm Go.Proofs.YtjgijaocinpkhaaDoor.Srts

theorem visitS_eq {n : Nat} (hn : n ≤ 10) (i d : Nat) (hd : d < 1000000) (x : ByteArray) : ∀ (l : List S83) (E : List PEnt), (∀ m ∈ l, spec_liMake.f x m.f0 m.f1 = some (mv x m.f0 m.f1) ∧ lineN n (mv x m.f0 m.f1)) → (∀ z ∈ Bfs.nodes E, lineN n z) → (Bfs.nodes E).Nodup →
    visitS i d x l E = some (Bfs.visit i d (l.map fun m => (m, mv x m.f0 m.f1)) E)
  | [], E, _, _, _ => rfl
  | m :: l, E, hl, hE, hnd => by
    obtain ⟨h1, h2⟩ := hl m List.mem_cons_self
    have hr := fun m' hm' => hl m' (List.mem_cons_of_mem _ hm')
    rw [visitS, h1, Option.bind_some, List.map_cons, Bfs.visit]
    by_cases hin : mv x m.f0 m.f1 ∈ Bfs.nodes E
    · rw [if_pos (inN_iff.2 hin), if_pos hin]
      exact visitS_eq hn i d hd x l E hr hE hnd
    · have hlen := lineN_most hn hnd hE
      rw [if_neg (fun h => hin (inN_iff.1 h)), if_neg hin, if_pos ⟨by omega, hd⟩]
      refine visitS_eq hn i d hd x l _ hr (fun z hz => ?_) (nodup_snoc hnd hin)
      rw [nodes_snoc, List.mem_append, List.mem_singleton] at hz
      rcases hz with hz | rfl
      · exact hE z hz
      · exact h2
theorem reachS_eq {n : Nat} (hn : n ≤ 10) (M : ByteArray → Option (List S83)) (ms : ByteArray → List S83) (hM : ∀ x, lineN n x → M x = some (ms x) ∧ (ms x).length ≤ 1000000)
    (hm : ∀ x, lineN n x → ∀ m ∈ ms x, spec_liMake.f x m.f0 m.f1 = some (mv x m.f0 m.f1) ∧ lineN n (mv x m.f0 m.f1)) : ∀ (k i : Nat) (E : List PEnt), (∀ z ∈ Bfs.nodes E, lineN n z) → (Bfs.nodes E).Nodup → Flat E → reachS M k i E = Bfs.bfs (nbM ms) k i E
  | 0, _, _, _, _, _ => rfl
  | k + 1, i, E, hE, hnd, hf => by
    rw [reachS, Bfs.bfs]
    cases he : E[i]? with
    | none => rfl
    | some e =>
      simp only
      have hle := hE e.node (Bfs.mem_nodes.2 ⟨i, e, he, rfl⟩)
      have hi := Bfs.get_lt he
      have hd := hf i e he
      have hlen := lineN_most hn hnd hE
      obtain ⟨h1, h2⟩ := hM e.node hle
      rw [h1, Option.bind_some, if_pos h2, visitS_eq hn i e.dep (by omega) e.node (ms e.node) E (hm e.node hle) hE hnd, Option.bind_some]
      exact reachS_eq hn M ms hM hm k (i + 1) _ (Bfs.visit_all i e.dep _ E hE (nb_line fun m hm' => (hm e.node hle m hm').2)) (visit_nodup i e.dep _ E hnd) (visit_flat i e.dep hd _ E hi hf)
/-- the search, for the program and for the reference -/
theorem byRule_found {n : Nat} (h1 : 1 ≤ n) (hn : n ≤ 10) (o b l : Bool) {a : ByteArray} (ha : lineN n a) : ∃ E : List PEnt, byRuleO 100000 a o b l = some E ∧ reachS (fun s => spec_ruMoves.f 3000 s o b l) 100000 0 [⟨a, -1, ⟨0, 0⟩, 0⟩] = some E ∧
    Bfs.Found (nbM fun x => bmoves x o b l) ⟨a, -1, ⟨0, 0⟩, 0⟩ E ∧ (∀ x ∈ Bfs.nodes E, lineN n x) ∧ E.length ≤ 59049 := by
  have hs : a.size = n := ha.1
  obtain ⟨E, e1, e2, e3, e4⟩ := Bfs.bfs_some (nb := nbM fun x => bmoves x o b l) (P := lineN n) (U := allN n) (r := (⟨a, -1, ⟨0, 0⟩, 0⟩ : PEnt))
    (fun x hx p hp => nb_line (l := bmoves x o b l) (fun m hm => (bmoves_line hn hx hm).2.2) p hp) (fun x hx => allN_mem hx) ha 100000 (by
      rw [allN_length]
      have : 3 ^ n ≤ 3 ^ 10 := Nat.pow_le_pow_right (by decide) hn
      omega)
  have hE : ∀ z ∈ Bfs.nodes [(⟨a, -1, ⟨0, 0⟩, 0⟩ : PEnt)], lineN n z := fun z hz => by
    simp [Bfs.nodes] at hz
    subst hz
    exact ha
  have hN : (Bfs.nodes [(⟨a, -1, ⟨0, 0⟩, 0⟩ : PEnt)]).Nodup := by simp [Bfs.nodes]
  have hF : Flat [(⟨a, -1, ⟨0, 0⟩, 0⟩ : PEnt)] := fun j e he => by
    cases j with
    | zero => cases he; exact Nat.le_refl _
    | succ j => simp at he
  refine ⟨E, ?_, ?_, e2, e3, lineN_most hn e2.nodup e3⟩
  · unfold byRuleO
    rw [if_pos (by omega), pathsO_eq hn _ (fun x => bmoves x o b l) (fun x hx => ⟨movesBy_eq x (by rw [hx.1]; exact h1) (by rw [hx.1]; exact hn) hx.2 o b l 2000 (by omega), by have := bmoves_length x o b l; omega⟩) (fun x hx m hm => ⟨(bmoves_line hn hx hm).1, (bmoves_line hn hx hm).2.2⟩) 100000 0 _ hE hN hF]
    exact e1
  · rw [reachS_eq hn _ (fun x => bmoves x o b l) (fun x hx => ⟨ruMoves_eq x (by rw [hx.1]; exact h1) (by rw [hx.1]; exact hn) hx.2 o b l 3000 (by omega), by have := bmoves_length x o b l; omega⟩) (fun x hx m hm => ⟨(bmoves_line hn hx hm).2.1, (bmoves_line hn hx hm).2.2⟩) 100000 0 _ hE hN hF]
    exact e1
end Go.Proofs.YtjgijaocinpkhaaDoor.XT

namespace Go.Proofs.YtjgijaocinpkhaaDoor.XT
set_option linter.unusedVariables false
set_option linter.unusedSimpArgs false
open Go Go.RowKit Go.Proofs.YtjgijaocinpkhaaDoorW.PrintWords Go.Proofs.YtjgijaocinpkhaaDoorB Go.Proofs.YtjgijaocinpkhaaDoor.Pm Go.Proofs.YtjgijaocinpkhaaDoor.Srts

def stepsTo : List PEnt → ByteArray → Int
  | [], _ => -1
  | e :: E, v => if e.node = v then (e.dep : Int) else stepsTo E v
theorem stepsTo_none : ∀ {E : List PEnt} {v : ByteArray}, v ∉ Bfs.nodes E → stepsTo E v = -1
  | [], _, _ => rfl
  | e :: E, v, h => by
    unfold Bfs.nodes at h
    rw [List.map_cons, List.mem_cons, not_or] at h
    rw [stepsTo, if_neg (fun e' => h.1 e'.symm)]
    exact stepsTo_none h.2
theorem stepsTo_some : ∀ {E : List PEnt} {v : ByteArray}, v ∈ Bfs.nodes E → 0 ≤ stepsTo E v
  | [], _, h => by simp [Bfs.nodes] at h
  | e :: E, v, h => by
    rw [stepsTo]
    by_cases h' : e.node = v
    · rw [if_pos h']
      omega
    · rw [if_neg h']
      unfold Bfs.nodes at h
      rw [List.map_cons, List.mem_cons] at h
      rcases h with h | h
      · exact absurd h.symm h'
      · exact stepsTo_some h
theorem tl_iff {x y : ByteArray} : x.toList = y.toList ↔ x = y := ⟨tl_inj, fun h => by rw [h]⟩
theorem nodesLen (E : List PEnt) : (Bfs.nodes E).length = E.length := List.length_map _
theorem rd_dep {E : List PEnt} {i : Nat} {e : PEnt} (h : E[i]? = some e) : rd (E.map fun (e : PEnt) => (e.dep : Int)) (i : Int) = (e.dep : Int) := by
  unfold rd
  rw [Int.toNat_natCast, List.getD_eq_getElem?_getD, List.getElem?_map, h]
  rfl
end Go.Proofs.YtjgijaocinpkhaaDoor.XT

namespace Go.Proofs.YtjgijaocinpkhaaDoor.XT
set_option linter.unusedVariables false
set_option linter.unusedSimpArgs false
open Go Go.RowKit Go.Proofs.YtjgijaocinpkhaaDoorW.PrintWords Go.Proofs.YtjgijaocinpkhaaDoorB Go.Proofs.YtjgijaocinpkhaaDoor.Srts

theorem tl_eq {x y : ByteArray} : x.toList = y.toList ↔ x = y := ⟨tl_inj, fun h => by rw [h]⟩
theorem rdOf_get {l : List ByteArray} {i : Nat} (h : i < l.length) : l[i]? = some (rdOf ByteArray.empty l (i : Int)) := by
  unfold rdOf
  rw [Int.toNat_natCast, List.getD_eq_getElem?_getD, List.getElem?_eq_getElem h]
  rfl
theorem reAdd_l0 {F : List ByteArray} (hF : F.length ≤ 1000000) (hs : Srt F) (y : ByteArray) : ∀ (m lo hi k : Nat), hi - lo ≤ m → m < k → lo ≤ hi → hi ≤ F.length →
    (∀ j x, F[j]? = some x → j < lo → lsB x y = true) → (∀ j x, F[j]? = some x → hi ≤ j → lsB x y = false) →
    (y ∈ F ∧ spec_reAdd.l0 k F y (lo : Int) (hi : Int) = some F) ∨ (y ∉ F ∧ ∃ r, spec_reAdd.l0 k F y (lo : Int) (hi : Int) = some r ∧ r.length = F.length + 1 ∧ Srt r ∧ ∀ x, x ∈ r ↔ x = y ∨ x ∈ F) := by
  have hp := List.pairwise_iff_getElem.1 hs
  intro m
  induction m with
  | zero =>
    intro lo hi k h1 hk h2 h3 H1 H2
    obtain ⟨k, rfl⟩ : ∃ q, k = q + 1 := ⟨k - 1, by omega⟩
    obtain rfl : hi = lo := by omega
    simp only [spec_reAdd.l0]
    rw [if_neg (by omega)]
    have e1 : (F.take hi).length = hi := by rw [List.length_take]; omega
    have e2 : (F.drop hi).length = F.length - hi := List.length_drop
    by_cases hlt : hi < F.length
    · rw [if_pos (by omega), if_pos (by omega)]
      have hg := rdOf_get hlt
      by_cases hy : rdOf ByteArray.empty F (hi : Int) = y
      · rw [if_pos (tl_eq.2 hy)]
        exact .inl ⟨List.mem_of_getElem? (hy ▸ hg), rfl⟩
      · rw [if_neg (fun h => hy (tl_eq.1 h))]
        obtain ⟨hno, hsr, hmm⟩ := ins_srt hs H1 H2 (by rw [hg]; intro e; exact hy (Option.some.inj e))
        refine .inr ⟨hno, F.take hi ++ [y] ++ F.drop hi, ?_, ?_, hsr, hmm⟩
        · simp only [Option.bind_some, List.nil_append, Int.toNat_natCast]
          rw [if_pos (by omega), if_pos (by simp only [List.length_nil]; omega), if_pos (by omega), if_pos (by rw [List.length_append, List.length_singleton]; omega)]
        · rw [List.length_append, List.length_append, List.length_singleton]; omega
    · rw [if_neg (by omega)]
      obtain ⟨hno, hsr, hmm⟩ := ins_srt hs H1 H2 (by rw [List.getElem?_eq_none (by omega)]; intro e; cases e)
      refine .inr ⟨hno, F.take hi ++ [y] ++ F.drop hi, ?_, ?_, hsr, hmm⟩
      · simp only [Option.bind_some, List.nil_append, Int.toNat_natCast]
        rw [if_pos (by omega), if_pos (by omega), if_pos (by simp only [List.length_nil]; omega), if_pos (by omega), if_pos (by rw [List.length_append, List.length_singleton]; omega)]
      · rw [List.length_append, List.length_append, List.length_singleton]; omega
  | succ m ih =>
    intro lo hi k h1 hk h2 h3 H1 H2
    by_cases hlt : lo < hi
    case neg =>
      exact ih lo hi k (by omega) (by omega) h2 h3 H1 H2
    obtain ⟨k, rfl⟩ : ∃ q, k = q + 1 := ⟨k - 1, by omega⟩
    have hq : wrap64 (Int.tdiv (wrap64 ((lo : Int) + (hi : Int))) 2) = (((lo + hi) / 2 : Nat) : Int) := by
      rw [w64 (x := (lo : Int) + (hi : Int)) (by omega) (by omega), Int.tdiv_eq_ediv_of_nonneg (by omega), w64 (by omega) (by omega)]
      omega
    obtain ⟨q, hq'⟩ : ∃ q : Nat, q = (lo + hi) / 2 := ⟨_, rfl⟩
    rw [← hq'] at hq
    simp only [spec_reAdd.l0]
    rw [if_pos (by omega), hq, if_pos (by omega), if_pos (by omega)]
    have hg := rdOf_get (l := F) (i := q) (by omega)
    obtain ⟨hql, hqe⟩ := List.getElem?_eq_some_iff.1 hg
    have hw : wrap64 ((q : Int) + 1) = ((q + 1 : Nat) : Int) := by rw [w64 (by omega) (by omega)]; rfl
    cases hz : lsB (rdOf ByteArray.empty F (q : Int)) y with
    | true =>
      rw [if_pos (show Op.bytesLess _ _ = true from hz), hw]
      refine ih (q + 1) hi k (by omega) (by omega) (by omega) h3 (fun j x hj hlj => ?_) H2
      obtain ⟨hjl, hje⟩ := List.getElem?_eq_some_iff.1 hj
      rcases Nat.lt_or_ge j q with g | g
      · have h4 := hp j q hjl hql g
        rw [hje, hqe] at h4
        exact lsB_trans h4 hz
      · obtain rfl : j = q := by omega
        rw [hj] at hg
        cases hg
        exact hz
    | false =>
      rw [if_neg (fun h => by have : lsB _ y = true := h; rw [hz] at this; cases this)]
      refine ih lo q k (by omega) (by omega) (by omega) (by omega) H1 (fun j x hj hlj => ?_)
      obtain ⟨hjl, hje⟩ := List.getElem?_eq_some_iff.1 hj
      rcases Nat.lt_or_ge q j with g | g
      · have h4 := hp q j hql hjl g
        rw [hje, hqe] at h4
        cases hxy : lsB x y with
        | false => rfl
        | true => rw [lsB_trans h4 hxy] at hz; cases hz
      · obtain rfl : j = q := by omega
        rw [hj] at hg
        cases hg
        exact hz
theorem reAdd_eq {F : List ByteArray} (hF : F.length ≤ 1000000) (hs : Srt F) (y : ByteArray) (k : Nat) (hk : F.length < k) :
    (y ∈ F ∧ spec_reAdd.f k F y = some F) ∨ (y ∉ F ∧ ∃ r, spec_reAdd.f k F y = some r ∧ r.length = F.length + 1 ∧ Srt r ∧ ∀ x, x ∈ r ↔ x = y ∨ x ∈ F) :=
  reAdd_l0 hF hs y F.length 0 F.length k (by omega) hk (Nat.zero_le _) (Nat.le_refl _) (fun j x _ h => by omega) (fun j x h h' => by have := (List.getElem?_eq_some_iff.1 h).1; omega)
end Go.Proofs.YtjgijaocinpkhaaDoor.XT

namespace Go.Proofs.YtjgijaocinpkhaaDoor.XT
set_option linter.unusedVariables false
set_option linter.unusedSimpArgs false
open Go Go.RowKit Go.Proofs.YtjgijaocinpkhaaDoorW.PrintWords Go.Proofs.YtjgijaocinpkhaaDoorB Go.Proofs.YtjgijaocinpkhaaDoor.Pm Go.Proofs.YtjgijaocinpkhaaDoor.Srts

/-- where a text can come from, by the moves to one place -/
def backRow (x : ByteArray) (o b l : Bool) (t : Nat) : Nat → Nat → List (S83 × ByteArray)
  | 0, _ => []
  | d + 1, j => (if bt x (t : Int) ≠ 46 ∧ bt x (j : Int) = 46 ∧ bcan (mv x (t : Int) (j : Int)) o b l (j : Int) (t : Int) = true then [(⟨(j : Int), (t : Int)⟩, mv x (t : Int) (j : Int))] else []) ++ backRow x o b l t d (j + 1)
def backAll (x : ByteArray) (o b l : Bool) : Nat → Nat → List (S83 × ByteArray)
  | 0, _ => []
  | d + 1, t => backRow x o b l t x.size 0 ++ backAll x o b l d (t + 1)
theorem mem_backRow {x : ByteArray} {o b l : Bool} {t : Nat} {p : S83 × ByteArray} : ∀ (d j : Nat), p ∈ backRow x o b l t d j ↔ ∃ q : Nat, j ≤ q ∧ q < j + d ∧ bt x (t : Int) ≠ 46 ∧ bt x (q : Int) = 46 ∧ bcan (mv x (t : Int) (q : Int)) o b l (q : Int) (t : Int) = true ∧ p = (⟨(q : Int), (t : Int)⟩, mv x (t : Int) (q : Int))
  | 0, j => by
    rw [backRow]
    constructor
    · intro h; cases h
    · rintro ⟨q, h1, h2, _⟩; omega
  | d + 1, j => by
    rw [backRow, List.mem_append, mem_backRow d (j + 1)]
    constructor
    · rintro (h | ⟨q, h1, h2, h3⟩)
      · split at h
        · rename_i hc
          rw [List.mem_singleton] at h
          exact ⟨j, Nat.le_refl _, by omega, hc.1, hc.2.1, hc.2.2, h⟩
        · cases h
      · exact ⟨q, by omega, by omega, h3⟩
    · rintro ⟨q, h1, h2, h3, h4, h5, h6⟩
      rcases Nat.lt_or_ge j q with g | g
      · exact .inr ⟨q, by omega, by omega, h3, h4, h5, h6⟩
      · obtain rfl : q = j := by omega
        rw [if_pos ⟨h3, h4, h5⟩]
        exact .inl (List.mem_singleton.2 h6)
theorem mem_backAll {x : ByteArray} {o b l : Bool} {p : S83 × ByteArray} : ∀ (d t : Nat), p ∈ backAll x o b l d t ↔ ∃ s : Nat, t ≤ s ∧ s < t + d ∧ p ∈ backRow x o b l s x.size 0
  | 0, t => by
    rw [backAll]
    constructor
    · intro h; cases h
    · rintro ⟨q, h1, h2, _⟩; omega
  | d + 1, t => by
    rw [backAll, List.mem_append, mem_backAll d (t + 1)]
    constructor
    · rintro (h | ⟨q, h1, h2, h3⟩)
      · exact ⟨t, Nat.le_refl _, by omega, h⟩
      · exact ⟨q, by omega, by omega, h3⟩
    · rintro ⟨q, h1, h2, h3⟩
      rcases Nat.lt_or_ge t q with g | g
      · exact .inr ⟨q, by omega, by omega, h3⟩
      · obtain rfl : q = t := by omega
        exact .inl h3
theorem visit_append (i d : Nat) : ∀ (l l' : List (S83 × ByteArray)) (E : List PEnt), Bfs.visit i d (l ++ l') E = Bfs.visit i d l' (Bfs.visit i d l E)
  | [], _, _ => rfl
  | (m, y) :: l, l', E => by
    rw [List.cons_append, Bfs.visit, Bfs.visit]
    split
    · exact visit_append i d l l' E
    · exact visit_append i d l l' _
/-- what holds of the search between two steps -/
structure Bk (n i : Nat) (e : PEnt) (E : List PEnt) (F : List ByteArray) : Prop where
  fs : Fs E F
  ln : ∀ z ∈ Bfs.nodes E, lineN n z
  flat : Flat E
  at_ : E[i]? = some e
theorem bt_ne {x : ByteArray} {t j : Nat} (h1 : bt x (t : Int) ≠ 46) (h2 : bt x (j : Int) = 46) : (t : Int) ≠ (j : Int) := fun h => h1 (by rw [h]; exact h2)
theorem mv_line {n : Nat} {x : ByteArray} (h : lineN n x) {f t : Int} (f0 : 0 ≤ f) (f1 : f < (n : Int)) : lineN n (mv x f t) := ⟨by rw [mv_size]; exact h.1, mv_all' h.2 f t f0 (by rw [h.1]; exact f1)⟩
theorem back_l2 {n : Nat} (h1 : 1 ≤ n) (hn : n ≤ 10) (o b l : Bool) {x : ByteArray} (hx : lineN n x) (i : Nat) (e : PEnt) (t : Nat) (ht : t < n) : ∀ (d j k : Nat) (E : List PEnt) (F : List ByteArray), j + d = n → Bk n i e E F → 60000 + 2 * d + 3 ≤ k →
    ∃ (k' : Nat) (F' : List ByteArray), k ≤ k' + 2 * d + 1 ∧ Bk n i e (Bfs.visit i e.dep (backRow x o b l t d j) E) F' ∧
      spec_ruBack.l2 k F (i : Int) x (t : Int) o b l (Bfs.nodes E) (E.map fun (e : PEnt) => (e.dep : Int)) (((t + 1 : Nat) : Nat) : Int) x (j : Int) x = spec_ruBack.l1 k' F' (i : Int) x o b l (Bfs.nodes (Bfs.visit i e.dep (backRow x o b l t d j) E)) ((Bfs.visit i e.dep (backRow x o b l t d j) E).map fun (e : PEnt) => (e.dep : Int)) ((t + 1 : Nat) : Int) x := by
  have hsz : x.size = n := hx.1
  intro d
  induction d with
  | zero =>
    intro j k E F hj hB hk
    obtain ⟨k, rfl⟩ : ∃ q, k = q + 1 := ⟨k - 1, by omega⟩
    refine ⟨k, F, by omega, hB, ?_⟩
    rw [spec_ruBack.l2]
    rw [if_pos (by omega), if_neg (by omega)]
    rfl
  | succ d ih =>
    intro j k E F hj hB hk
    obtain ⟨k, rfl⟩ : ∃ q, k = q + 2 := ⟨k - 2, by omega⟩
    have hjs : (j : Int) < (x.size : Int) := by omega
    have hlen := lineN_most hn hB.fs.nd hB.ln
    have hie := Bfs.get_lt hB.at_
    have hdep := hB.flat i e hB.at_
    rw [spec_ruBack.l2, if_pos (by omega), if_pos hjs, if_pos (bt_lt' hx.2 (by omega)), if_pos (by omega), if_pos (by omega)]
    have hw : (j : Int) + 1 = ((j + 1 : Nat) : Int) := rfl
    rw [hw]
    by_cases q1 : bt x (t : Int) = 46
    · rw [if_pos q1, spec_ruBack.j3, if_pos rfl, backRow, if_neg (fun h => h.1 q1), List.nil_append]
      obtain ⟨k', F', g1, g2, g3⟩ := ih (j + 1) k E F (by omega) hB (by omega)
      exact ⟨k', F', by omega, g2, g3⟩
    rw [if_neg q1, if_pos hjs, spec_ruBack.j3]
    by_cases q2 : bt x (j : Int) = 46
    case neg =>
      rw [if_pos (by simpa using q2), backRow, if_neg (fun h => q2 h.2.1), List.nil_append]
      obtain ⟨k', F', g1, g2, g3⟩ := ih (j + 1) k E F (by omega) hB (by omega)
      exact ⟨k', F', by omega, g2, g3⟩
    have hy := mv_line hx (f := (t : Int)) (t := (j : Int)) (by omega) (by omega)
    have hys : (mv x (t : Int) (j : Int)).size = n := hy.1
    rw [if_neg (by simp [q2]), liMake_eq x (by omega) (t : Int) (j : Int) (by omega) (by omega) (by omega) hjs (bt_ne q1 q2), Option.bind_some, ruCan_eq _ (by omega) (by omega) hy.2 (j : Int) (t : Int) o b l k (by omega), Option.bind_some]
    by_cases q3 : bcan (mv x (t : Int) (j : Int)) o b l (j : Int) (t : Int) = true
    case neg =>
      rw [if_neg q3, backRow, if_neg (fun h => q3 h.2.2), List.nil_append]
      obtain ⟨k', F', g1, g2, g3⟩ := ih (j + 1) k E F (by omega) hB (by omega)
      exact ⟨k', F', by omega, g2, g3⟩
    rw [if_pos q3, backRow, if_pos ⟨q1, q2, q3⟩, List.singleton_append, Bfs.visit]
    have hFl := hB.fs.len
    rcases reAdd_eq (F := F) (by omega) hB.fs.srt (mv x (t : Int) (j : Int)) k (by omega) with ⟨hin, hr⟩ | ⟨hin, r, hr, hrl, hrs, hrm⟩
    · rw [hr, Option.bind_some, if_pos ((hB.fs.mem _).1 hin), if_pos (show (F.length : Int) = (F.length : Int) from rfl)]
      obtain ⟨k', F', g1, g2, g3⟩ := ih (j + 1) k E F (by omega) hB (by omega)
      exact ⟨k', F', by omega, g2, g3⟩
    · have hnin : mv x (t : Int) (j : Int) ∉ Bfs.nodes E := fun h => hin ((hB.fs.mem _).2 h)
      rw [hr, Option.bind_some, if_neg hnin, if_neg (show ¬ (r.length : Int) = (F.length : Int) by omega), nodesLen, List.length_map, if_pos (show E.length < 8796093022208 by omega), if_pos (show (0 : Int) ≤ (i : Int) by omega), if_pos (show (i : Int) < (E.length : Int) by omega), if_pos (show E.length < 17592186044416 by omega), rd_dep hB.at_, w64 (by omega) (by omega)]
      have hB' : Bk n i e (E ++ [⟨mv x (t : Int) (j : Int), (i : Int), ⟨(j : Int), (t : Int)⟩, e.dep + 1⟩]) r := by
        refine ⟨hB.fs.snoc (by omega) hnin hrl hrs hrm, fun z hz => ?_, fun j' e' he' => ?_, Bfs.get_old hB.at_⟩
        · rw [nodes_snoc, List.mem_append, List.mem_singleton] at hz
          rcases hz with hz | rfl
          · exact hB.ln z hz
          · exact hy
        · rcases Bfs.get_snoc he' with he' | ⟨rfl, rfl⟩
          · exact hB.flat j' e' he'
          · show e.dep + 1 ≤ E.length
            omega
      obtain ⟨k', F', g1, g2, g3⟩ := ih (j + 1) k _ r (by omega) hB' (by omega)
      refine ⟨k', F', by omega, g2, ?_⟩
      rw [nodes_snoc, List.map_append] at g3
      exact g3
theorem back_l1 {n : Nat} (h1 : 1 ≤ n) (hn : n ≤ 10) (o b l : Bool) {x : ByteArray} (hx : lineN n x) (i : Nat) (e : PEnt) : ∀ (d t k : Nat) (E : List PEnt) (F : List ByteArray), t + d = n → Bk n i e E F → 60100 + 25 * d ≤ k →
    ∃ (k' : Nat) (F' : List ByteArray), k ≤ k' + 25 * d + 1 ∧ Bk n i e (Bfs.visit i e.dep (backAll x o b l d t) E) F' ∧
      spec_ruBack.l1 k F (i : Int) x o b l (Bfs.nodes E) (E.map fun (e : PEnt) => (e.dep : Int)) (t : Int) x = spec_ruBack.l0 k' F' (wrap64 ((i : Int) + 1)) o b l (Bfs.nodes (Bfs.visit i e.dep (backAll x o b l d t) E)) ((Bfs.visit i e.dep (backAll x o b l d t) E).map fun (e : PEnt) => (e.dep : Int)) := by
  have hsz : x.size = n := hx.1
  intro d
  induction d with
  | zero =>
    intro t k E F ht hB hk
    obtain ⟨k, rfl⟩ : ∃ q, k = q + 1 := ⟨k - 1, by omega⟩
    refine ⟨k, F, by omega, hB, ?_⟩
    rw [spec_ruBack.l1, if_pos (by omega), if_neg (by omega)]
    rfl
  | succ d ih =>
    intro t k E F ht hB hk
    obtain ⟨k, rfl⟩ : ∃ q, k = q + 1 := ⟨k - 1, by omega⟩
    rw [spec_ruBack.l1, if_pos (by omega), if_pos (by omega), if_pos (bt_lt' hx.2 (by omega))]
    obtain ⟨k1, F1, g1, g2, g3⟩ := back_l2 h1 hn o b l hx i e t (by omega) n 0 k E F (by omega) hB (by omega)
    obtain ⟨k2, F2, f1, f2, f3⟩ := ih (t + 1) k1 _ F1 (by omega) g2 (by omega)
    refine ⟨k2, F2, by omega, ?_, ?_⟩
    · rw [backAll, visit_append, hsz]
      exact f2
    · rw [backAll, visit_append, hsz]
      exact (show _ = _ from g3).trans f3
theorem back_l0 {n : Nat} (h1 : 1 ≤ n) (hn : n ≤ 10) (o b l : Bool) (nbX : ByteArray → List (S83 × ByteArray)) (hX : ∀ x, lineN n x → nbX x = backAll x o b l n 0) : ∀ (m i k : Nat) (E EF : List PEnt) (F : List ByteArray), Fs E F → (∀ z ∈ Bfs.nodes E, lineN n z) → Flat E → i ≤ E.length → Bfs.bfs nbX m i E = some EF → 60400 + 300 * m ≤ k →
    spec_ruBack.l0 k F (i : Int) o b l (Bfs.nodes E) (E.map fun (e : PEnt) => (e.dep : Int)) = some (Bfs.nodes EF, EF.map fun (e : PEnt) => (e.dep : Int))
  | 0, _, _, _, _, _, _, _, _, _, h, _ => by cases h
  | m + 1, i, k, E, EF, F, hF, hE, hf, hi, h, hk => by
    obtain ⟨k, rfl⟩ : ∃ q, k = q + 1 := ⟨k - 1, by omega⟩
    rw [Bfs.bfs] at h
    rw [spec_ruBack.l0, nodesLen]
    cases he : E[i]? with
    | none =>
      rw [he] at h
      cases h
      have := List.getElem?_eq_none_iff.1 he
      rw [if_neg (by omega)]
    | some e =>
      rw [he] at h
      simp only at h
      have hlt := Bfs.get_lt he
      have hx : lineN n e.node := hE _ (Bfs.mem_nodes.2 ⟨i, e, he, rfl⟩)
      have hlen := lineN_most hn hF.nd hE
      rw [if_pos (by omega), if_pos (by omega), nodes_rd he]
      obtain ⟨k1, F1, g1, g2, g3⟩ := back_l1 h1 hn o b l hx i e n 0 k E F (by omega) ⟨hF, hE, hf, he⟩ (by omega)
      rw [show (0 : Int) = ((0 : Nat) : Int) from rfl, g3, w64_succ (n := E.length) hlt (by omega)]
      rw [hX _ hx] at h
      exact back_l0 h1 hn o b l nbX hX m (i + 1) k1 _ EF F1 g2.fs g2.ln g2.flat (by have := Bfs.get_lt g2.at_; omega) h (by omega)
end Go.Proofs.YtjgijaocinpkhaaDoor.XT

namespace Go.Proofs.YtjgijaocinpkhaaDoor.XT
set_option linter.unusedVariables false
set_option linter.unusedSimpArgs false
open Go Go.RowKit Go.Proofs.YtjgijaocinpkhaaDoorW.PrintWords Go.Proofs.YtjgijaocinpkhaaDoorB Go.Proofs.YtjgijaocinpkhaaDoor.Pm Go.Proofs.YtjgijaocinpkhaaDoor.Srts

instance (n : Nat) (x : ByteArray) : Decidable (lineN n x) := by unfold lineN; exact inferInstance
/-- the moves of a line of n signs, and whence it can come -/
def msR (n : Nat) (o b l : Bool) (x : ByteArray) : List S83 := if lineN n x then bmoves x o b l else []
def nbR (n : Nat) (o b l : Bool) : ByteArray → List (S83 × ByteArray) := nbM (msR n o b l)
def nbBR (n : Nat) (o b l : Bool) (x : ByteArray) : List (S83 × ByteArray) := if lineN n x then backAll x o b l n 0 else []
theorem nbR_line {n : Nat} (hn : n ≤ 10) {o b l : Bool} : ∀ x, lineN n x → ∀ p ∈ nbR n o b l x, lineN n p.2 := fun x hx p hp => by
  unfold nbR nbM msR at hp
  rw [if_pos hx] at hp
  exact nb_line (l := bmoves x o b l) (fun m hm => (bmoves_line hn hx hm).2.2) p hp
theorem nbBR_line {n : Nat} {o b l : Bool} : ∀ x, lineN n x → ∀ p ∈ nbBR n o b l x, lineN n p.2 := fun x hx p hp => by
  unfold nbBR at hp
  rw [if_pos hx] at hp
  obtain ⟨s, _, hs, hp⟩ := (mem_backAll n 0).1 hp
  obtain ⟨q, _, _, _, _, _, rfl⟩ := (mem_backRow _ _).1 hp
  exact mv_line hx (by omega) (by omega)
theorem root_line {n : Nat} {a : ByteArray} (ha : lineN n a) : ∀ z ∈ Bfs.nodes [(⟨a, -1, ⟨0, 0⟩, 0⟩ : PEnt)], lineN n z := fun z hz => by
  simp [Bfs.nodes] at hz
  subst hz
  exact ha
theorem root_nodup (a : ByteArray) : (Bfs.nodes [(⟨a, -1, ⟨0, 0⟩, 0⟩ : PEnt)]).Nodup := by simp [Bfs.nodes]
theorem root_flat (a : ByteArray) : Flat [(⟨a, -1, ⟨0, 0⟩, 0⟩ : PEnt)] := fun j e he => by
  cases j with
  | zero => cases he; exact Nat.le_refl _
  | succ j => simp at he
theorem allN_few {n : Nat} (hn : n ≤ 10) : (allN n).length < 59050 := by
  rw [allN_length]
  have : 3 ^ n ≤ 3 ^ 10 := Nat.pow_le_pow_right (by decide) hn
  omega
theorem byRule_foundR {n : Nat} (h1 : 1 ≤ n) (hn : n ≤ 10) (o b l : Bool) {a : ByteArray} (ha : lineN n a) : ∃ E : List PEnt, byRuleO 100000 a o b l = some E ∧ Bfs.Found (nbR n o b l) ⟨a, -1, ⟨0, 0⟩, 0⟩ E ∧ (∀ x ∈ Bfs.nodes E, lineN n x) ∧ E.length ≤ 59049 := by
  have hs : a.size = n := ha.1
  obtain ⟨E, e1, e2, e3, e4⟩ := Bfs.bfs_some (nb := nbR n o b l) (P := lineN n) (U := allN n) (r := (⟨a, -1, ⟨0, 0⟩, 0⟩ : PEnt)) (nbR_line hn) (fun x hx => allN_mem hx) ha 100000 (by have := allN_few hn; omega)
  refine ⟨E, ?_, e2, e3, lineN_most hn e2.nodup e3⟩
  unfold byRuleO
  rw [if_pos (by omega), pathsO_eq hn _ (msR n o b l) (fun x hx => ⟨by unfold msR; rw [if_pos hx]; exact movesBy_eq x (by rw [hx.1]; exact h1) (by rw [hx.1]; exact hn) hx.2 o b l 2000 (by omega), by unfold msR; rw [if_pos hx]; have := bmoves_length x o b l; omega⟩)
    (fun x hx m hm => by unfold msR at hm; rw [if_pos hx] at hm; exact ⟨(bmoves_line hn hx hm).1, (bmoves_line hn hx hm).2.2⟩) 100000 0 _ (root_line ha) (root_nodup a) (root_flat a)]
  exact e1
theorem ruBack_found {n : Nat} (h1 : 1 ≤ n) (hn : n ≤ 10) (o b l : Bool) {v : ByteArray} (hv : lineN n v) : ∃ E : List PEnt, (∀ k, 18000000 ≤ k → spec_ruBack.f k v o b l = some (Bfs.nodes E, E.map fun (e : PEnt) => (e.dep : Int))) ∧
    Bfs.Found (nbBR n o b l) ⟨v, -1, ⟨0, 0⟩, 0⟩ E ∧ (∀ x ∈ Bfs.nodes E, lineN n x) ∧ E.length ≤ 59049 := by
  obtain ⟨E, e1, e2, e3, e4⟩ := Bfs.bfs_some (nb := nbBR n o b l) (P := lineN n) (U := allN n) (r := (⟨v, -1, ⟨0, 0⟩, 0⟩ : PEnt)) nbBR_line (fun x hx => allN_mem hx) hv 59050 (allN_few hn)
  refine ⟨E, fun k hk => ?_, e2, e3, lineN_most hn e2.nodup e3⟩
  have h := back_l0 h1 hn o b l (nbBR n o b l) (fun x hx => by unfold nbBR; rw [if_pos hx]) 59050 0 k [⟨v, -1, ⟨0, 0⟩, 0⟩] E [v] ⟨List.pairwise_singleton _ _, fun x => by simp [Bfs.nodes], rfl, by simp, root_nodup v⟩ (root_line hv) (root_flat v) (Nat.zero_le _) e1 (by omega)
  exact h
/-- a move made and taken back -/
theorem mv_mv {x : ByteArray} {f t : Nat} (hf : f < x.size) (ht : t < x.size) (hne : f ≠ t) (h : bt x (t : Int) = 46) : mv (mv x (f : Int) (t : Int)) (t : Int) (f : Int) = x := by
  have hl : x.data.toList.length = x.size := data_length x
  have h46 : x.data.toList[t]? = some 46 := by
    obtain ⟨c, hd, hb⟩ := bt_eq x t ht
    rw [hb] at h
    have hc := (is46 c).1 h
    subst hc
    have := congrArg (·[0]?) hd
    simpa using this
  apply ba_eq
  unfold mv
  simp only [Int.toNat_natCast]
  apply List.ext_getElem?
  intro i
  have e1 : (x.data.toList.getD f 0) = x.data.toList[f]'(by omega) := by rw [List.getD_eq_getElem?_getD, List.getElem?_eq_getElem (by omega)]; rfl
  have e2 : ((x.data.toList.set t (x.data.toList.getD f 0)).set f 46).getD t 0 = x.data.toList.getD f 0 := by
    rw [List.getD_eq_getElem?_getD, List.getElem?_set_ne hne, List.getElem?_set_self (by omega)]
    rfl
  rw [e2]
  by_cases ht' : t = i
  · subst ht'
    rw [List.getElem?_set_self (by simp; omega), h46]
  · rw [List.getElem?_set_ne ht']
    by_cases hf' : f = i
    · subst hf'
      rw [List.getElem?_set_self (by simp; omega), e1, List.getElem?_eq_getElem (by omega)]
    · rw [List.getElem?_set_ne hf', List.getElem?_set_ne hf', List.getElem?_set_ne ht']
theorem bt_mv {x : ByteArray} {f t : Nat} (hf : f < x.size) (ht : t < x.size) (hne : f ≠ t) : bt (mv x (f : Int) (t : Int)) (t : Int) = bt x (f : Int) ∧ bt (mv x (f : Int) (t : Int)) (f : Int) = 46 := by
  have hl : x.data.toList.length = x.size := data_length x
  have hs := mv_size x (f : Int) (t : Int)
  have at_ : ∀ (z : ByteArray) (i : Nat) (c : UInt8), i < z.size → z.data.toList[i]? = some c → bt z (i : Int) = (c.toNat : Int) := fun z i c hi hc => by
    obtain ⟨c', hd, hb⟩ := bt_eq z i hi
    have := congrArg (·[0]?) hd
    simp only [List.getElem?_drop, Nat.add_zero, List.getElem?_cons_zero, hc] at this
    rw [hb]
    cases this
    rfl
  have hm : (mv x (f : Int) (t : Int)).data.toList = (x.data.toList.set t (x.data.toList.getD f 0)).set f 46 := by unfold mv; simp only [Int.toNat_natCast]
  constructor
  · obtain ⟨c, hd, hb⟩ := bt_eq x f hf
    have hc := congrArg (·[0]?) hd
    simp only [List.getElem?_drop, Nat.add_zero, List.getElem?_cons_zero] at hc
    rw [hb]
    refine at_ _ t c (by omega) ?_
    rw [hm, List.getElem?_set_ne hne, List.getElem?_set_self (by omega), List.getD_eq_getElem?_getD, hc]
    rfl
  · exact at_ _ f 46 (by omega) (by rw [hm, List.getElem?_set_self (by simp; omega)])
theorem bcan_bt {x : ByteArray} (hs : x.size ≤ 100) {o b l : Bool} {f t : Int} (h : bcan x o b l f t = true) : bt x t = 46 ∧ bt x f ≠ 46 := by
  obtain ⟨f0, f1, _⟩ := bcan_in hs h
  obtain ⟨i, rfl⟩ : ∃ i : Nat, f = (i : Int) := ⟨f.toNat, by omega⟩
  have hb : bcan x o b l (i : Int) t = (bgo x o b l i (-1) == some t || bgo x o b l i 1 == some t) := by
    unfold bcan
    rw [decide_eq_true (show 0 ≤ (i : Int) ∧ (i : Int) < (x.size : Int) from ⟨f0, f1⟩), Bool.true_and, Int.toNat_natCast]
  rw [hb, Bool.or_eq_true, beq_iff_eq, beq_iff_eq] at h
  rcases h with h | h
  · obtain ⟨_, _, g2, g3, _⟩ := bgo_in hs (by omega) (.inr rfl) h
    exact ⟨g2, by omega⟩
  · obtain ⟨_, _, g2, g3, _⟩ := bgo_in hs (by omega) (.inl rfl) h
    exact ⟨g2, by omega⟩
theorem inv_nb {n : Nat} (hn : n ≤ 10) (o b l : Bool) (x y : ByteArray) : (∃ m, (m, y) ∈ nbR n o b l x) ↔ (∃ m, (m, x) ∈ nbBR n o b l y) := by
  constructor
  · rintro ⟨m, hm⟩
    by_cases hx : lineN n x
    case neg => unfold nbR nbM msR at hm; rw [if_neg hx] at hm; cases hm
    have hy : lineN n y := nbR_line hn x hx _ hm
    unfold nbR nbM msR at hm
    rw [if_pos hx] at hm
    obtain ⟨⟨f, t⟩, hmm, he⟩ := List.mem_map.1 hm
    have hs : x.size = n := hx.1
    have hc := (bmoves_mem x (by omega) o b l f t).1 hmm
    obtain ⟨f0, f1, t0, t1, ne⟩ := bcan_in (by omega) hc
    obtain ⟨b1, b2⟩ := bcan_bt (by omega) hc
    obtain ⟨i, rfl⟩ : ∃ i : Nat, f = (i : Int) := ⟨f.toNat, by omega⟩
    obtain ⟨j, rfl⟩ : ∃ j : Nat, t = (j : Int) := ⟨t.toNat, by omega⟩
    have ey : y = mv x (i : Int) (j : Int) := (congrArg Prod.snd he).symm
    subst ey
    obtain ⟨c1, c2⟩ := bt_mv (x := x) (f := i) (t := j) (by omega) (by omega) (by omega)
    have hback := mv_mv (x := x) (f := i) (t := j) (by omega) (by omega) (by omega) b1
    refine ⟨⟨(i : Int), (j : Int)⟩, ?_⟩
    unfold nbBR
    rw [if_pos hy]
    refine (mem_backAll n 0).2 ⟨j, Nat.zero_le _, by omega, (mem_backRow _ _).2 ⟨i, Nat.zero_le _, by rw [hy.1]; omega, by rw [c1]; exact b2, c2, by rw [hback]; exact hc, by rw [hback]⟩⟩
  · rintro ⟨m, hm⟩
    by_cases hy : lineN n y
    case neg => unfold nbBR at hm; rw [if_neg hy] at hm; cases hm
    have hx : lineN n x := nbBR_line y hy _ hm
    unfold nbBR at hm
    rw [if_pos hy] at hm
    obtain ⟨j, _, hj, hm⟩ := (mem_backAll n 0).1 hm
    obtain ⟨i, _, hi, c1, c2, hc, he⟩ := (mem_backRow _ _).1 hm
    have hs : y.size = n := hy.1
    have ex : x = mv y (j : Int) (i : Int) := congrArg Prod.snd he
    subst ex
    have hne : j ≠ i := fun e => c1 (by rw [e]; exact c2)
    have hback := mv_mv (x := y) (f := j) (t := i) (by omega) (by omega) hne c2
    refine ⟨⟨(i : Int), (j : Int)⟩, ?_⟩
    unfold nbR nbM msR
    rw [if_pos hx]
    refine List.mem_map.2 ⟨⟨(i : Int), (j : Int)⟩, (bmoves_mem _ (by rw [hx.1]; omega) o b l _ _).2 hc, ?_⟩
    show (_, mv (mv y (j : Int) (i : Int)) (i : Int) (j : Int)) = _
    rw [hback]
theorem ruLeft_eq (E : List PEnt) (hE : E.length ≤ 1000000) (v : ByteArray) (k : Nat) (hk : E.length < k) : spec_ruLeft.f k (Bfs.nodes E) (E.map fun (e : PEnt) => (e.dep : Int)) v = some (stepsTo E v) := by
  have go : ∀ (d i k : Nat), i + d = E.length → d < k →
      spec_ruLeft.l0 k v (Bfs.nodes E) ((Bfs.nodes E).length : Int) (i : Int) (Bfs.nodes E) (E.map fun (e : PEnt) => (e.dep : Int)) = some (stepsTo (E.drop i) v) := by
    intro d
    induction d with
    | zero =>
      intro i k hi hk
      obtain ⟨k, rfl⟩ : ∃ m, k = m + 1 := ⟨k - 1, by omega⟩
      simp only [spec_ruLeft.l0]
      rw [nodesLen, if_neg (by omega), List.drop_of_length_le (by omega)]
      rfl
    | succ d ih =>
      intro i k hi hk
      obtain ⟨k, rfl⟩ : ∃ m, k = m + 1 := ⟨k - 1, by omega⟩
      have hlt : i < E.length := by omega
      have he : E[i]? = some E[i] := List.getElem?_eq_getElem hlt
      simp only [spec_ruLeft.l0]
      have ih' := ih (i + 1) k (by omega) (by omega)
      rw [nodesLen] at ih' ⊢
      rw [if_pos (by omega), if_pos (by omega), if_pos (by omega), List.length_map, if_pos (show (i : Int) < (E.length : Int) by omega), w64_succ (n := E.length) hlt (by omega), ih', nodes_rd he, rd_dep he, List.drop_eq_getElem_cons hlt, stepsTo]
      by_cases h : E[i].node = v
      · rw [if_pos (tl_iff.2 h), if_pos h]
      · rw [if_neg (fun e => h (tl_iff.1 e)), if_neg h]
  exact go E.length 0 k (by omega) hk
end Go.Proofs.YtjgijaocinpkhaaDoor.XT

namespace Go.Proofs.YtjgijaocinpkhaaDoor.XT
set_option linter.unusedVariables false
set_option linter.unusedSimpArgs false
open Go Go.RowKit Go.Proofs.YtjgijaocinpkhaaDoorW.PrintWords Go.Proofs.YtjgijaocinpkhaaDoorB Go.Proofs.YtjgijaocinpkhaaDoor.Pm Go.Proofs.YtjgijaocinpkhaaDoor.Srts

theorem getD_set {γ : Type} (L : List γ) (a q : Nat) (v d : γ) (h : a < L.length) : (L.set a v).getD q d = if q = a then v else L.getD q d := by
  rw [List.getD_eq_getElem?_getD, List.getD_eq_getElem?_getD]
  by_cases hq : q = a
  · subst hq
    rw [if_pos rfl, List.getElem?_set_self h]
    rfl
  · rw [if_neg hq, List.getElem?_set_ne (fun e => hq e.symm)]
theorem visB_eq (N : List ByteArray) (x : ByteArray) (i : Nat) : ∀ (ms : List S83) (L : List (List Int)), (∀ m ∈ ms, impl_made.f x m.f0 m.f1 = some (mv x m.f0 m.f1) ∧ (mv x m.f0 m.f1).size ≤ 1000 ∧ mv x m.f0 m.f1 ∈ N) → L.length = N.length → (∀ q, (L.getD q []).length + ms.length < 1000000000) →
    ∃ L', visB N x i ms L = some L' ∧ L'.length = N.length ∧ (∀ q, (L'.getD q []).length ≤ (L.getD q []).length + ms.length) ∧ ∀ (q : Nat) (k : Int), k ∈ L'.getD q [] ↔ k ∈ L.getD q [] ∨ (k = (i : Int) ∧ ∃ m ∈ ms, ixW (mv x m.f0 m.f1) N = q)
  | [], L, _, hl, _ => ⟨L, rfl, hl, fun q => Nat.le_add_right _ _, fun q k => ⟨Or.inl, fun h => h.elim id (fun h => by obtain ⟨_, m, hm, _⟩ := h; cases hm)⟩⟩
  | m :: r, L, hm, hl, hb => by
    obtain ⟨h1, h2, h3⟩ := hm m List.mem_cons_self
    have hq : ixW (mv x m.f0 m.f1) N < L.length := by rw [hl]; exact (List.getElem?_eq_some_iff.1 (ixW_at h3)).1
    have hlen : (m :: r).length = r.length + 1 := List.length_cons
    rw [visB, h1, Option.bind_some, if_pos ⟨h2, inN_iff.2 h3, by have := hb (ixW (mv x m.f0 m.f1) N); omega⟩]
    obtain ⟨p, hp⟩ : ∃ p, ixW (mv x m.f0 m.f1) N = p := ⟨_, rfl⟩
    rw [hp] at hq ⊢
    obtain ⟨L', e1, e2, e3, e4⟩ := visB_eq N x i r (L.set p (L.getD p [] ++ [(i : Int)])) (fun m' h => hm m' (List.mem_cons_of_mem _ h)) (by rw [List.length_set]; exact hl) (fun q => by
      rw [getD_set L p q _ _ hq]
      have := hb q
      split
      · rename_i e; subst e; rw [List.length_append, List.length_singleton]; omega
      · omega)
    refine ⟨L', e1, e2, fun q => ?_, fun q k => ?_⟩
    · have := e3 q
      rw [getD_set L p q _ _ hq] at this
      split at this
      · rename_i e; subst e; rw [List.length_append, List.length_singleton] at this; omega
      · omega
    · rw [e4 q k, getD_set L p q _ _ hq]
      constructor
      · rintro (h | ⟨h, m', hm', e⟩)
        · split at h
          · rename_i e
            subst e
            rcases List.mem_append.1 h with h | h
            · exact .inl h
            · exact .inr ⟨List.mem_singleton.1 h, m, List.mem_cons_self, hp⟩
          · exact .inl h
        · exact .inr ⟨h, m', List.mem_cons_of_mem _ hm', e⟩
      · rintro (h | ⟨h, m', hm', e⟩)
        · refine .inl ?_
          split
          · rename_i e; subst e; exact List.mem_append_left _ h
          · exact h
        · rcases List.mem_cons.1 hm' with rfl | hm'
          · rw [hp] at e
            rw [if_pos e.symm]
            exact .inl (List.mem_append_right _ (List.mem_singleton.2 h))
          · exact .inr ⟨h, m', hm', e⟩
theorem befB_eq (M : ByteArray → Option (List S83)) (ms : ByteArray → List S83) (N : List ByteArray) : ∀ (xs : List ByteArray) (i : Nat) (L : List (List Int)),
    (∀ x ∈ xs, M x = some (ms x) ∧ (ms x).length ≤ 100 ∧ ∀ m ∈ ms x, impl_made.f x m.f0 m.f1 = some (mv x m.f0 m.f1) ∧ (mv x m.f0 m.f1).size ≤ 1000 ∧ mv x m.f0 m.f1 ∈ N) → L.length = N.length → (∀ q, (L.getD q []).length + 100 * xs.length < 1000000000) →
    ∃ L', befB M N i xs L = some L' ∧ L'.length = N.length ∧ (∀ q, (L'.getD q []).length ≤ (L.getD q []).length + 100 * xs.length) ∧ ∀ (q : Nat) (k : Int), k ∈ L'.getD q [] ↔ k ∈ L.getD q [] ∨ ∃ (j : Nat) (x : ByteArray), xs[j]? = some x ∧ k = ((i + j : Nat) : Int) ∧ ∃ m ∈ ms x, ixW (mv x m.f0 m.f1) N = q
  | [], i, L, _, hl, _ => ⟨L, rfl, hl, fun q => Nat.le_add_right _ _, fun q k => ⟨Or.inl, fun h => h.elim id (fun h => by obtain ⟨j, x, hx, _⟩ := h; simp at hx)⟩⟩
  | x :: r, i, L, hx, hl, hb => by
    obtain ⟨h1, h2, h3⟩ := hx x List.mem_cons_self
    have hlen : (x :: r).length = r.length + 1 := List.length_cons
    obtain ⟨L1, e1, e2, e3, e4⟩ := visB_eq N x i (ms x) L h3 hl (fun q => by have := hb q; omega)
    obtain ⟨L', f1, f2, f3, f4⟩ := befB_eq M ms N r (i + 1) L1 (fun y hy => hx y (List.mem_cons_of_mem _ hy)) e2 (fun q => by have := hb q; have := e3 q; omega)
    refine ⟨L', ?_, f2, fun q => (by have := f3 q; have := e3 q; omega), fun q k => ?_⟩
    · rw [befB, h1, Option.bind_some, if_pos (by omega), e1, Option.bind_some, f1]
    · rw [f4 q k, e4 q k]
      constructor
      · rintro ((h | ⟨h, h'⟩) | ⟨j, y, g1, g2, g3⟩)
        · exact .inl h
        · exact .inr ⟨0, x, rfl, h, h'⟩
        · exact .inr ⟨j + 1, y, by simpa using g1, by rw [g2]; omega, g3⟩
      · rintro (h | ⟨j, y, g1, g2, g3⟩)
        · exact .inl (.inl h)
        · cases j with
          | zero =>
            obtain rfl : x = y := by simpa using g1
            exact .inl (.inr ⟨g2, g3⟩)
          | succ j => exact .inr ⟨j, y, by simpa using g1, by rw [g2]; omega, g3⟩
/-- what is set down, and what is marked -/
structure Sl (n : Nat) (s : List Bool) (l : List Int) : Prop where
  len : s.length = n
  nd : l.Nodup
  lt : ∀ i ∈ l, 0 ≤ i ∧ i < (n : Int)
  is : ∀ q : Nat, q < n → (s.getD q false = true ↔ (q : Int) ∈ l)
def rangeI (n : Nat) : List Int := (List.range n).map fun (k : Nat) => (k : Int)
theorem rangeI_length (n : Nat) : (rangeI n).length = n := by unfold rangeI; rw [List.length_map, List.length_range]
theorem mem_rangeI {n : Nat} {i : Int} : i ∈ rangeI n ↔ 0 ≤ i ∧ i < (n : Int) := by
  unfold rangeI
  rw [List.mem_map]
  constructor
  · rintro ⟨a, ha, rfl⟩
    have := List.mem_range.1 ha
    omega
  · rintro ⟨h0, h1⟩
    exact ⟨i.toNat, List.mem_range.2 (by omega), by omega⟩
theorem rangeI_nodup (n : Nat) : (rangeI n).Nodup := by
  unfold rangeI
  rw [List.Nodup, List.pairwise_map]
  exact List.nodup_range.imp fun h e => h (by omega)
theorem Sl.most {n : Nat} {s : List Bool} {l : List Int} (h : Sl n s l) : l.length ≤ n := by
  have := Bfs.nodup_le (U := rangeI n) h.nd (fun i hi => mem_rangeI.2 (h.lt i hi))
  rw [rangeI_length] at this
  exact this
theorem innB_eq (n : Nat) (hn : n ≤ 59049) : ∀ (r : List Int) (s : List Bool) (l : List Int), (∀ i ∈ r, 0 ≤ i ∧ i < (n : Int)) → Sl n s l →
    ∃ s' l' t, innB r s l = some (s', l') ∧ Sl n s' l' ∧ l' = l ++ t ∧ (∀ i ∈ t, i ∈ r) ∧ ∀ i ∈ r, i ∈ l'
  | [], s, l, _, h => ⟨s, l, [], rfl, h, (List.append_nil l).symm, fun i hi => (by cases hi), fun i hi => (by cases hi)⟩
  | i :: r, s, l, hr, h => by
    obtain ⟨h0, h1⟩ := hr i List.mem_cons_self
    have hr' := fun j hj => hr j (List.mem_cons_of_mem _ hj)
    have hi : ((i.toNat : Nat) : Int) = i := by omega
    have his := h.is i.toNat (by omega)
    rw [hi] at his
    rw [innB, if_pos ⟨h0, by rw [h.len]; exact h1⟩]
    by_cases hm : i ∈ l
    · rw [if_pos (his.2 hm)]
      obtain ⟨s', l', t, e1, e2, rfl, e4, e5⟩ := innB_eq n hn r s l hr' h
      refine ⟨s', _, t, e1, e2, rfl, fun j hj => List.mem_cons_of_mem _ (e4 j hj), fun j hj => ?_⟩
      rcases List.mem_cons.1 hj with rfl | hj
      · exact List.mem_append_left _ hm
      · exact e5 j hj
    · have hmost := h.most
      rw [if_neg (fun e => hm (his.1 e)), if_pos (by omega)]
      have h' : Sl n (s.set i.toNat true) (l ++ [i]) := by
        refine ⟨by rw [List.length_set]; exact h.len, ?_, fun j hj => ?_, fun q hq => ?_⟩
        · refine List.nodup_append.2 ⟨h.nd, by simp, fun a ha b hb e => ?_⟩
          rw [List.mem_singleton] at hb
          subst hb
          exact hm (e ▸ ha)
        · rcases List.mem_append.1 hj with hj | hj
          · exact h.lt j hj
          · rw [List.mem_singleton.1 hj]; exact ⟨h0, h1⟩
        · rw [getD_set s _ q _ _ (by rw [h.len]; omega)]
          split
          · rename_i e
            subst e
            rw [hi]
            simp
          · rename_i e
            rw [h.is q hq, List.mem_append, List.mem_singleton]
            constructor
            · exact Or.inl
            · rintro (g | g)
              · exact g
              · omega
      obtain ⟨s', l', t, e1, e2, rfl, e4, e5⟩ := innB_eq n hn r _ _ hr' h'
      refine ⟨s', _, i :: t, e1, e2, by simp, fun j hj => ?_, fun j hj => ?_⟩
      · rcases List.mem_cons.1 hj with rfl | hj
        · exact List.mem_cons_self
        · exact List.mem_cons_of_mem _ (e4 j hj)
      · rcases List.mem_cons.1 hj with rfl | hj
        · simp
        · exact e5 j hj
theorem outB_eq (L : List (List Int)) (hn : L.length ≤ 59049) (hL : ∀ q, ∀ i ∈ L.getD q [], 0 ≤ i ∧ i < (L.length : Int)) (hR : ∀ q, (L.getD q []).length ≤ 1000000000) (P : Int → Prop) (hP : ∀ j i, 0 ≤ j → P j → i ∈ L.getD j.toNat [] → P i) : ∀ (d k f : Nat) (s : List Bool) (l : List Int), Sl L.length s l → (∀ i ∈ l, P i) → (∀ (k' : Nat) (j : Int), k' < k → l[k']? = some j → ∀ i ∈ L.getD j.toNat [], i ∈ l) → k ≤ l.length → L.length + 1 ≤ k + d → d ≤ f →
    ∃ ls, outB L f k s l = some ls ∧ ls.Nodup ∧ (∀ i ∈ ls, 0 ≤ i ∧ i < (L.length : Int)) ∧ (∀ i ∈ l, i ∈ ls) ∧ (∀ j ∈ ls, ∀ i ∈ L.getD j.toNat [], i ∈ ls) ∧ ∀ i ∈ ls, P i
  | 0, k, f, s, l, hs, _, _, hk, hd, _ => by
    have := hs.most
    omega
  | d + 1, k, f, s, l, hs, hp, hc, hk, hd, hf => by
    obtain ⟨f, rfl⟩ : ∃ q, f = q + 1 := ⟨f - 1, by omega⟩
    rw [outB]
    cases hj : l[k]? with
    | none =>
      have hkl := List.getElem?_eq_none_iff.1 hj
      refine ⟨l, rfl, hs.nd, hs.lt, fun i hi => hi, fun j hj i hi => ?_, hp⟩
      obtain ⟨k', hk'⟩ := List.mem_iff_getElem?.1 hj
      have := (List.getElem?_eq_some_iff.1 hk').1
      exact hc k' j (by omega) hk' i hi
    | some j =>
      have hkl := (List.getElem?_eq_some_iff.1 hj).1
      have hjm := List.mem_of_getElem? hj
      have hjl := hs.lt j hjm
      simp only
      rw [if_pos ⟨hjl, hR _⟩]
      obtain ⟨s', l', t, e1, e2, rfl, e4, e5⟩ := innB_eq L.length hn (L.getD j.toNat []) s l (hL j.toNat) hs
      rw [e1, Option.bind_some]
      obtain ⟨ls, g1, g2, g3, g4, g5, g6⟩ := outB_eq L hn hL hR P hP d (k + 1) f s' (l ++ t) e2 (fun i hi => by
        rcases List.mem_append.1 hi with hi | hi
        · exact hp i hi
        · exact hP j i hjl.1 (hp j hjm) (e4 i hi)) (fun k' j' hk' hj' i hi => by
        rw [List.getElem?_append_left (by omega)] at hj'
        by_cases e : k' = k
        · subst e
          rw [hj] at hj'
          cases hj'
          exact e5 i hi
        · exact List.mem_append_left _ (hc k' j' (by omega) hj' i hi)) (by rw [List.length_append]; omega) (by omega) (by omega)
      exact ⟨ls, g1, g2, g3, fun i hi => g4 i (List.mem_append_left _ hi), g5, g6⟩
theorem all_iff {n : Nat} {ls : List Int} (h : ls.Nodup) (hl : ∀ i ∈ ls, 0 ≤ i ∧ i < (n : Int)) : ls.length = n ↔ ∀ q : Nat, q < n → (q : Int) ∈ ls := by
  have h1 : ls.length ≤ n := by
    have := Bfs.nodup_le (U := rangeI n) h (fun i hi => mem_rangeI.2 (hl i hi))
    rw [rangeI_length] at this
    exact this
  constructor
  · intro e q hq
    refine Classical.byContradiction fun hn => ?_
    have := Bfs.nodup_le (U := rangeI n) (l := (q : Int) :: ls) (List.nodup_cons.2 ⟨hn, h⟩) (fun i hi => by
      rcases List.mem_cons.1 hi with rfl | hi
      · exact mem_rangeI.2 ⟨by omega, by omega⟩
      · exact mem_rangeI.2 (hl i hi))
    rw [rangeI_length, List.length_cons] at this
    omega
  · intro ha
    have := Bfs.nodup_le (U := ls) (rangeI_nodup n) (fun i hi => by
      obtain ⟨g0, g1⟩ := mem_rangeI.1 hi
      have := ha i.toNat (by omega)
      rwa [show ((i.toNat : Nat) : Int) = i by omega] at this)
    rw [rangeI_length] at this
    omega
theorem walk_in {n : Nat} {o b l : Bool} {a : ByteArray} {E : List PEnt} (h : Bfs.Found (nbR n o b l) ⟨a, -1, ⟨0, 0⟩, 0⟩ E) {x y : ByteArray} {m : S83} (hx : x ∈ Bfs.nodes E) (hm : (m, y) ∈ nbR n o b l x) : y ∈ Bfs.nodes E := by
  obtain ⟨p, q, hq, rfl⟩ := Bfs.mem_nodes.1 hx
  obtain ⟨j, e, he, hn, _⟩ := h.closed hq hm
  exact Bfs.mem_nodes.2 ⟨j, e, he, hn⟩
theorem rep_nil (n q : Nat) : (List.replicate n ([] : List Int)).getD q [] = [] := by
  rw [List.getD_eq_getElem?_getD]
  cases hr : (List.replicate n ([] : List Int))[q]? with
  | none => rfl
  | some v => exact List.eq_of_mem_replicate (List.mem_of_getElem? hr)
theorem bothways_eq {a : ByteArray} (h1 : 1 ≤ a.size) (h10 : a.size ≤ 10) (hl : a.data.toList.all sgn = true) (o b l : Bool) : ∃ E : List PEnt, Bfs.Found (nbR a.size o b l) ⟨a, -1, ⟨0, 0⟩, 0⟩ E ∧ byRuleO 100000 a o b l = some E ∧ E.length ≤ 59049 ∧ (∀ x ∈ Bfs.nodes E, lineN a.size x) ∧ ∃ v : Bool, impl_BothWays.f a o b l = some (v, true) ∧ (v = true ↔ ∀ x ∈ Bfs.nodes E, ∃ m, Bfs.Walk (nbR a.size o b l) m x a) := by
  have ha : lineN a.size a := ⟨rfl, hl⟩
  obtain ⟨E, e1, e2, e3, e4⟩ := byRule_foundR h1 h10 o b l ha
  have hN : (Bfs.nodes E).length = E.length := nodes_len E
  have hnd := e2.nodup
  have h0 : (Bfs.nodes E)[0]? = some a := by unfold Bfs.nodes; rw [List.getElem?_map, e2.root]; rfl
  have hpos : 0 < (Bfs.nodes E).length := (List.getElem?_eq_some_iff.1 h0).1
  have hline : isLine 10 a = true := by
    unfold isLine
    rw [decide_eq_true h1, decide_eq_true h10, hl]
    rfl
  have hin : ∀ x ∈ Bfs.nodes E, ∀ m ∈ bmoves x o b l, (m, mv x m.f0 m.f1) ∈ nbR a.size o b l x := fun x hx m hm => by
    unfold nbR nbM msR
    rw [if_pos (e3 x hx)]
    exact List.mem_map.2 ⟨m, hm, rfl⟩
  obtain ⟨L, f1, f2, f2', f3⟩ := befB_eq (fun s => impl_movesBy.f 2000 s o b l) (fun x => bmoves x o b l) (Bfs.nodes E) (Bfs.nodes E) 0 (List.replicate (Bfs.nodes E).length []) (fun x hx => by
    have hxl := e3 x hx
    refine ⟨movesBy_eq x (by rw [hxl.1]; exact h1) (by rw [hxl.1]; exact h10) hxl.2 o b l 2000 (by omega), bmoves_length x o b l, fun m hm => ?_⟩
    obtain ⟨g1, g2, g3⟩ := bmoves_line h10 hxl hm
    exact ⟨g1, by rw [g3.1]; omega, walk_in e2 hx (hin x hx m hm)⟩) (by rw [List.length_replicate]) (fun q => by
    rw [rep_nil, List.length_nil]
    omega)
  have hrow : ∀ (q : Nat) (k : Int), k ∈ L.getD q [] ↔ ∃ (j : Nat) (x : ByteArray), (Bfs.nodes E)[j]? = some x ∧ k = (j : Int) ∧ ∃ m ∈ bmoves x o b l, ixW (mv x m.f0 m.f1) (Bfs.nodes E) = q := fun q k => by
    rw [f3 q k]
    constructor
    · rintro (h | ⟨j, x, g1, g2, g3⟩)
      · rw [rep_nil] at h
        cases h
      · exact ⟨j, x, g1, by rw [g2, Nat.zero_add], g3⟩
    · rintro ⟨j, x, g1, g2, g3⟩
      exact .inr ⟨j, x, g1, by rw [g2, Nat.zero_add], g3⟩
  obtain ⟨ls, g1, g2, g3, g4, g5, g6⟩ := outB_eq L (by omega) (fun q i hi => by
    obtain ⟨j, x, gx, rfl, _⟩ := (hrow q i).1 hi
    have := (List.getElem?_eq_some_iff.1 gx).1
    omega) (fun q => by
    have := f2' q
    rw [rep_nil, List.length_nil] at this
    omega) (fun i => ∃ (x : ByteArray) (m : Nat), (Bfs.nodes E)[i.toNat]? = some x ∧ Bfs.Walk (nbR a.size o b l) m x a) (fun j i hj0 hj hi => by
    obtain ⟨y, m, hy, hw⟩ := hj
    obtain ⟨i', x, gx, rfl, m', hm', hix⟩ := (hrow _ i).1 hi
    have hxm := List.mem_of_getElem? gx
    have hnb := hin x hxm m' hm'
    have hy2 := ixW_at (walk_in e2 hxm hnb)
    rw [hix, hy] at hy2
    cases hy2
    exact ⟨x, m + 1, by rw [Int.toNat_natCast]; exact gx, .cons hnb hw⟩) (L.length + 1) 0 100000 ((List.replicate (Bfs.nodes E).length false).set 0 true) [0] (by
    rw [f2]
    refine ⟨by simp, by simp, fun i hi => ?_, fun q hq => ?_⟩
    · rw [List.mem_singleton.1 hi]; omega
    · rw [getD_set _ 0 q _ _ (by simpa using hpos)]
      split
      · rename_i e; subst e; simp
      · rename_i e
        rw [List.getD_eq_getElem?_getD, List.getElem?_replicate, if_pos hq]
        simp
        omega) (fun i hi => by
    rw [List.mem_singleton.1 hi]
    exact ⟨a, 0, h0, .nil a⟩) (fun k' j hk' => by omega) (Nat.zero_le _) (by omega) (by omega)
  refine ⟨E, e2, e1, e4, e3, ((ls.length : Int) == ((Bfs.nodes E).length : Int)), ?_, ?_⟩
  · unfold impl_BothWays.f
    rw [impl_isReachLine_eq a (by omega), hline]
    simp only [Option.bind_some, if_true]
    rw [e1, Option.bind_some, if_pos hpos, f1, Option.bind_some, g1]
    rfl
  · rw [beq_iff_eq, show ((ls.length : Int) = ((Bfs.nodes E).length : Int)) ↔ ls.length = (Bfs.nodes E).length by omega, all_iff g2 (by rw [← f2]; exact g3)]
    constructor
    · intro ha' x hx
      obtain ⟨j, hj⟩ := List.mem_iff_getElem?.1 hx
      obtain ⟨x', m, hx', hw⟩ := g6 _ (ha' j (List.getElem?_eq_some_iff.1 hj).1)
      rw [Int.toNat_natCast, hj] at hx'
      cases hx'
      exact ⟨m, hw⟩
    · intro hw
      have key : ∀ (m : Nat) (x y : ByteArray), Bfs.Walk (nbR a.size o b l) m x y → y = a → ∀ i : Nat, (Bfs.nodes E)[i]? = some x → (i : Int) ∈ ls := by
        intro m x y hxy
        induction hxy with
        | nil x =>
          rintro rfl i hi
          have : i = 0 := (List.getElem?_inj (List.getElem?_eq_some_iff.1 hi).1 hnd).1 (by rw [hi, h0])
          subst this
          exact g4 0 (by simp)
        | @cons m x y z mm hm hw ih =>
          intro hz i hi
          have hxm := List.mem_of_getElem? hi
          have hym := walk_in e2 hxm hm
          have hiy := ixW_at hym
          have hj := ih hz _ hiy
          refine g5 _ hj _ ((hrow _ _).2 ⟨i, x, hi, rfl, ?_⟩)
          unfold nbR nbM msR at hm
          rw [if_pos (e3 x hxm)] at hm
          obtain ⟨m', hm', he⟩ := List.mem_map.1 hm
          refine ⟨m', hm', ?_⟩
          rw [Int.toNat_natCast, show mv x m'.f0 m'.f1 = y from congrArg Prod.snd he]
      intro q hq
      have hq' : (Bfs.nodes E)[q]? = some (Bfs.nodes E)[q] := List.getElem?_eq_getElem hq
      obtain ⟨m, hm⟩ := hw _ (List.mem_of_getElem? hq')
      exact key m _ a hm rfl q hq'
/-- what the search backwards finds -/
theorem back_iff {n : Nat} (hn : n ≤ 10) {o b l : Bool} {a : ByteArray} {E' : List PEnt} (h : Bfs.Found (nbBR n o b l) ⟨a, -1, ⟨0, 0⟩, 0⟩ E') (x : ByteArray) : x ∈ Bfs.nodes E' ↔ ∃ m, Bfs.Walk (nbR n o b l) m x a := by
  constructor
  · intro hx
    obtain ⟨j, e, he, hne⟩ := Bfs.mem_nodes.1 hx
    exact ⟨e.dep, ((Bfs.back_near h rfl (inv_nb hn o b l) e.dep x).1 ⟨j, e, he, hne, rfl⟩).1⟩
  · rintro ⟨m, hm⟩
    induction m using Nat.strongRecOn with
    | _ m ih =>
      by_cases hl : ∃ m', m' < m ∧ Bfs.Walk (nbR n o b l) m' x a
      · obtain ⟨m', h1, h2⟩ := hl
        exact ih m' h1 h2
      · obtain ⟨j, e, he, hne, _⟩ := (Bfs.back_near h rfl (inv_nb hn o b l) m x).2 ⟨hm, fun m' hm' hw => hl ⟨m', hm', hw⟩⟩
        exact Bfs.mem_nodes.2 ⟨j, e, he, hne⟩
end Go.Proofs.YtjgijaocinpkhaaDoor.XT
