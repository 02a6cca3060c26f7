/- Plain facts on lines, moves and searches, for the statement at hand: each theorem names its conditions. -/
import Derived.Test.YtjgijaocinpkhaaDoorWWords
import Derived.Lib.SlTrimSet
import Derived.Lib.Strings
import Derived.Test.YtjgijaocinpkhaaDoorXW
import Derived.Test.YtjgijaocinpkhaaDoorBfs
import Derived.Test.YtjgijaocinpkhaaDoorPm
import Derived.Test.YtjgijaocinpkhaaDoorSrts
import Derived.Test.YtjgijaocinpkhaaDoorSortf
import Derived.Test.YtjgijaocinpkhaaDoorXU0
import Derived.Test.YtjgijaocinpkhaaDoorXU1
import Derived.Test.YtjgijaocinpkhaaDoorXU2
import Derived.Test.YtjgijaocinpkhaaDoorXU3
import Derived.Test.YtjgijaocinpkhaaDoorXU4
import Derived.Test.YtjgijaocinpkhaaDoorXU5
import Derived.Test.YtjgijaocinpkhaaDoorXU6
import Derived.Test.YtjgijaocinpkhaaDoorXU7
import Derived.Test.YtjgijaocinpkhaaDoorXU8
import Derived.Test.YtjgijaocinpkhaaDoorXU9
namespace Go.Proofs.YtjgijaocinpkhaaDoorB
set_option linter.unusedVariables false
set_option linter.unusedSimpArgs false
open Go Go.RowKit Go.Proofs.YtjgijaocinpkhaaDoorW.PrintWords

theorem w64 {x : Int} (h0 : -9223372036854775808 ≤ x) (h1 : x ≤ 9223372036854775807) : wrap64 x = x := by
  unfold wrap64
  omega
theorem w64_succ {i n : Nat} (h : i < n) (hn : n ≤ 140737488351232) : wrap64 ((i : Int) + 1) = ((i + 1 : Nat) : Int) := by
  unfold wrap64
  omega
theorem bt_eq (a : ByteArray) (i : Nat) (h : i < a.size) : ∃ c : UInt8, a.data.toList.drop i = c :: a.data.toList.drop (i + 1) ∧ bt a (i : Int) = (c.toNat : Int) := by
  have hl : i < a.data.toList.length := by rw [data_length]; exact h
  refine ⟨a.data.toList[i], List.drop_eq_getElem_cons hl, ?_⟩
  unfold bt
  rw [dif_pos (show (i : Int).toNat < a.size by rw [Int.toNat_natCast]; exact h)]
  rfl
theorem byte_is (c : UInt8) (n : Nat) (hn : n < 256) : ((c.toNat : Int) = (n : Int)) ↔ c = UInt8.ofNat n := by
  constructor
  · intro h
    have h2 : c.toNat = n := by omega
    rw [← h2]
    simp
  · rintro rfl
    rw [UInt8.toNat_ofNat']
    omega
theorem is84 (c : UInt8) : ((c.toNat : Int) = 84) ↔ c = 84 := byte_is c 84 (by decide)
theorem is70 (c : UInt8) : ((c.toNat : Int) = 70) ↔ c = 70 := byte_is c 70 (by decide)
theorem is46 (c : UInt8) : ((c.toNat : Int) = 46) ↔ c = 46 := byte_is c 46 (by decide)
theorem is47 (c : UInt8) : ((c.toNat : Int) = 47) ↔ c = 47 := byte_is c 47 (by decide)
theorem byte_inj {c d : UInt8} : ((c.toNat : Int) = (d.toNat : Int)) ↔ c = d := by
  constructor
  · intro h
    exact UInt8.toNat_inj.1 (by omega)
  · rintro rfl
    rfl
/-- The signs of lines, and of words. -/
def sgn (c : UInt8) : Bool := c == 84 || c == 70 || c == 46
def tf (c : UInt8) : Bool := c == 84 || c == 70
theorem dropWhile_head {p : UInt8 → Bool} : ∀ (l : List UInt8) {c : UInt8} {t : List UInt8}, l.dropWhile p = c :: t → p c = false
  | [], _, _, h => by simp at h
  | x :: l, c, t, h => by
    rw [List.dropWhile_cons] at h
    split at h
    · exact dropWhile_head l h
    · rename_i hx
      cases h
      simpa using hx
theorem dropWhile_nil {p : UInt8 → Bool} : ∀ {l : List UInt8}, l.dropWhile p = [] ↔ ∀ x, x ∈ l → p x = true
  | [] => by simp
  | c :: l => by
    rw [List.dropWhile_cons]
    have ih := dropWhile_nil (p := p) (l := l)
    by_cases h : p c = true
    · rw [if_pos h, ih]
      simp [h]
    · rw [if_neg h]
      simp [h]
theorem trim_nil (l cs : List UInt8) : (Lib.trimS l cs = []) ↔ (l.all (cs.contains ·) = true) := by
  unfold Lib.trimS Lib.trimLeftS Lib.trimRightS
  rw [dropWhile_nil, List.all_eq_true]
  constructor
  · intro h
    cases hd : l.reverse.dropWhile (cs.contains ·) with
    | nil =>
      rw [dropWhile_nil] at hd
      exact fun x hx => hd x (List.mem_reverse.2 hx)
    | cons c t =>
      have h1 := h c (by rw [hd]; simp)
      rw [dropWhile_head _ hd] at h1
      cases h1
  · intro h x hx
    rw [List.mem_reverse] at hx
    exact h x (List.mem_reverse.1 ((List.dropWhile_sublist _).subset hx))
theorem trim_sgn (l : List UInt8) : ((⟨(Lib.trimS l [46, 70, 84]).toArray⟩ : ByteArray).toList == ([] : List UInt8)) = l.all sgn := by
  rw [Lib.toList_data, Bool.eq_iff_iff, beq_iff_eq]
  show Lib.trimS l [46, 70, 84] = [] ↔ _
  rw [trim_nil]
  have e : ∀ c : UInt8, ([46, 70, 84] : List UInt8).contains c = sgn c := by
    intro c
    unfold sgn
    by_cases h1 : c = 46
    · subst h1; decide
    by_cases h2 : c = 70
    · subst h2; decide
    by_cases h3 : c = 84
    · subst h3; decide
    simp [h1, h2, h3]
  simp only [e]
theorem trim_tf (l : List UInt8) : ((⟨(Lib.trimS l [84, 70]).toArray⟩ : ByteArray).toList == ([] : List UInt8)) = l.all tf := by
  rw [Lib.toList_data, Bool.eq_iff_iff, beq_iff_eq]
  show Lib.trimS l [84, 70] = [] ↔ _
  rw [trim_nil]
  have e : ∀ c : UInt8, ([84, 70] : List UInt8).contains c = tf c := by
    intro c
    unfold tf
    by_cases h2 : c = 70
    · subst h2; decide
    by_cases h3 : c = 84
    · subst h3; decide
    simp [h2, h3]
  simp only [e]
def isLine (m : Nat) (a : ByteArray) : Bool := decide (1 ≤ a.size) && (decide (a.size ≤ m) && a.data.toList.all sgn)
def isWord (a : ByteArray) : Bool := decide (a.size ≤ 40) && a.data.toList.all tf
def isRing (a : ByteArray) : Bool := decide (3 ≤ a.size) && isLine 9 a
theorem isLine_size {m : Nat} {a : ByteArray} (h : isLine m a = true) : 1 ≤ a.size ∧ a.size ≤ m ∧ a.data.toList.all sgn = true := by
  unfold isLine at h
  simp only [Bool.and_eq_true, decide_eq_true_eq] at h
  exact h
theorem less_not : ∀ (x y : List UInt8), Op.bytesLess x y = true → Op.bytesLess y x = false ∧ x ≠ y
  | x, [], h => by cases x <;> simp [Op.bytesLess] at h
  | [], _ :: _, _ => ⟨rfl, by simp⟩
  | a :: x, b :: y, h => by
    simp only [Op.bytesLess, Bool.or_eq_true, Bool.and_eq_true, decide_eq_true_eq, beq_iff_eq] at h
    rcases h with h | ⟨rfl, h⟩
    · refine ⟨?_, fun e => ?_⟩
      · simp only [Op.bytesLess, Bool.or_eq_false_iff, Bool.and_eq_false_iff, decide_eq_false_iff_not, beq_eq_false_iff_ne]
        have h2 := UInt8.lt_iff_toNat_lt.1 h
        exact ⟨fun h3 => by have := UInt8.lt_iff_toNat_lt.1 h3; omega, .inl (fun e => by subst e; omega)⟩
      · cases e
        have h2 := UInt8.lt_iff_toNat_lt.1 h
        omega
    · obtain ⟨h1, h2⟩ := less_not x y h
      refine ⟨?_, fun e => by cases e; exact h2 rfl⟩
      simp only [Op.bytesLess, h1, Bool.and_false, Bool.or_false, decide_eq_false_iff_not]
      exact fun h3 => by have := UInt8.lt_iff_toNat_lt.1 h3; omega
theorem less_total : ∀ (x y : List UInt8), Op.bytesLess x y = false → Op.bytesLess y x = true ∨ x = y
  | [], [], _ => .inr rfl
  | _ :: _, [], _ => .inl rfl
  | [], _ :: _, h => by simp [Op.bytesLess] at h
  | a :: x, b :: y, h => by
    simp only [Op.bytesLess, Bool.or_eq_false_iff, Bool.and_eq_false_iff, decide_eq_false_iff_not, beq_eq_false_iff_ne] at h
    obtain ⟨h1, h2⟩ := h
    by_cases e : a = b
    · subst e
      rcases h2 with h2 | h2
      · exact absurd rfl h2
      · rcases less_total x y h2 with h3 | h3
        · exact .inl (by simp [Op.bytesLess, h3])
        · exact .inr (by rw [h3])
    · refine .inl ?_
      have h3 : b < a := by
        rw [UInt8.lt_iff_toNat_lt] at h1 ⊢
        have h4 : a.toNat ≠ b.toNat := fun h5 => e (UInt8.toNat_inj.1 h5)
        omega
      simp [Op.bytesLess, h3]
/-- A law that holds two results of two parts against each other. -/
theorem law_two {α : Type} [DecidableEq α] (x y : Option (α × Bool)) (r : α × Bool) (hx : x = some r) (hy : y = some r) :
    (x.bind fun p => (y.bind fun q => (if q.1 = p.1 then (if (q.2 != p.2) = true then (some false) else (some true)) else (some false)))) = some true := by
  subst hx; subst hy; simp
theorem law_str (x y : Option (ByteArray × Bool)) (r : ByteArray × Bool) (hx : x = some r) (hy : y = some r) :
    (x.bind fun p => (y.bind fun q => (if q.1.toList = p.1.toList then (if (q.2 != p.2) = true then (some false) else (some true)) else (some false)))) = some true := by
  subst hx; subst hy; simp
theorem law_one (x y : Option Bool) (r : Bool) (hx : x = some r) (hy : y = some r) :
    (x.bind fun p => (y.bind fun q => (if (q != p) = true then (some false) else (some true)))) = some true := by
  subst hx; subst hy; simp
end Go.Proofs.YtjgijaocinpkhaaDoorB

namespace Go.Proofs.YtjgijaocinpkhaaDoor.XU
set_option linter.unusedVariables false
set_option linter.unusedSimpArgs false
open Go Go.RowKit Go.Proofs.YtjgijaocinpkhaaDoorW.PrintWords Go.Proofs.YtjgijaocinpkhaaDoorB

theorem l1In_eq (a b c : Int) : spec_l1In.f a b c = some (decide (b ≤ a) && decide (a ≤ c)) := by
  unfold spec_l1In.f
  by_cases h : b ≤ a <;> simp [h]
theorem within_eq (a b c : Int) : impl_within.f a b c = some (decide (b ≤ a) && decide (a ≤ c)) := by
  unfold impl_within.f
  by_cases h : b ≤ a <;> simp [h]
end Go.Proofs.YtjgijaocinpkhaaDoor.XU

namespace Go.Proofs.YtjgijaocinpkhaaDoor.XU
set_option linter.unusedVariables false
set_option linter.unusedSimpArgs false
open Go Go.RowKit Go.Proofs.YtjgijaocinpkhaaDoorW.PrintWords Go.Proofs.YtjgijaocinpkhaaDoorB

theorem liGood_l0 (a : ByteArray) (hs : a.size ≤ 140737488351232) : ∀ (d i k : Nat), i + d = a.size → d < k → spec_liGood.l0 k a (i : Int) = some ((a.data.toList.drop i).all sgn) := by
  intro d
  induction d with
  | zero =>
    intro i k hi hk
    obtain ⟨k, rfl⟩ : ∃ m, k = m + 1 := ⟨k - 1, by omega⟩
    simp only [spec_liGood.l0]
    rw [if_neg (by omega), List.drop_of_length_le (by rw [data_length]; omega)]
    rfl
  | succ d ih =>
    intro i k hi hk
    obtain ⟨k, rfl⟩ : ∃ m, k = m + 1 := ⟨k - 1, by omega⟩
    obtain ⟨c, hd, hb⟩ := bt_eq a i (by omega)
    simp only [spec_liGood.l0]
    rw [if_pos (by omega), if_pos (by omega), hb, w64_succ (n := a.size) (by omega) hs, ih (i + 1) k (by omega) (by omega), hd, List.all_cons]
    simp only [is84, is70, is46]
    by_cases h1 : c = 84
    · subst h1; simp [sgn]
    by_cases h2 : c = 70
    · subst h2; simp [sgn]
    by_cases h3 : c = 46
    · subst h3; simp [sgn]
    simp [h1, h2, h3, sgn]
theorem liGood_eq (a : ByteArray) (hs : a.size ≤ 140737488351232) (k : Nat) (hk : 20 ≤ k) : spec_liGood.f k a = some (isLine 12 a) := by
  unfold spec_liGood.f isLine
  rw [l1In_eq]
  simp only [Option.bind_some]
  by_cases h1 : 1 ≤ a.size
  · by_cases h2 : a.size ≤ 12
    · have h := liGood_l0 a hs a.size 0 k (by omega) (by omega)
      rw [List.drop_zero] at h
      rw [if_pos (by simp; omega)]
      simp only [h1, h2, decide_true, Bool.true_and]
      exact h
    · rw [if_neg (by simp; omega)]
      simp [h2]
  · rw [if_neg (by simp; omega)]
    simp [h1]
theorem isLineOf_eq (a : ByteArray) (m : Nat) (hs : a.size ≤ 140737488351232) : impl_isLineOf.f a (m : Int) = some (isLine m a) := by
  unfold impl_isLineOf.f isLine
  rw [within_eq]
  simp only [Option.bind_some]
  by_cases h1 : 1 ≤ a.size
  · by_cases h2 : a.size ≤ m
    · rw [if_pos (by simp; omega)]
      unfold strings_Trim.f
      rw [if_pos ⟨by omega, by decide, by decide⟩]
      simp only [Option.bind_some, h1, h2, decide_true, Bool.true_and]
      exact congrArg some (trim_sgn _)
    · rw [if_neg (by simp; omega)]
      simp [h2]
  · rw [if_neg (by simp; omega)]
    simp [h1]
end Go.Proofs.YtjgijaocinpkhaaDoor.XU

namespace Go.Proofs.YtjgijaocinpkhaaDoor.XU
set_option linter.unusedVariables false
set_option linter.unusedSimpArgs false
open Go Go.RowKit Go.Proofs.YtjgijaocinpkhaaDoorW.PrintWords Go.Proofs.YtjgijaocinpkhaaDoorB

/-- the sign at a place, 0 outside -/
def sg (a : ByteArray) (i : Int) : Int := if 0 ≤ i ∧ i < (a.size : Int) then bt a i else 0
theorem impl_at_eq (a : ByteArray) (i : Int) : impl_at.f a i = some (sg a i) := by
  unfold impl_at.f sg
  by_cases h0 : i < 0
  · rw [if_pos h0, if_neg (by omega)]
  · rw [if_neg h0]
    by_cases h1 : i ≥ (a.size : Int)
    · rw [if_pos h1, if_neg (by omega)]
    · rw [if_neg h1, if_pos (by omega), if_pos (by omega), if_pos (by omega)]
theorem sg_in {a : ByteArray} {i : Int} (h0 : 0 ≤ i) (h1 : i < (a.size : Int)) : sg a i = bt a i := if_pos ⟨h0, h1⟩
theorem sg_is {a : ByteArray} {i c : Int} (h : sg a i = c) (hc : c ≠ 0) : 0 ≤ i ∧ i < (a.size : Int) ∧ bt a i = c := by
  unfold sg at h
  split at h
  · rename_i hi
    exact ⟨hi.1, hi.2, h⟩
  · exact absurd h.symm hc
end Go.Proofs.YtjgijaocinpkhaaDoor.XU

namespace Go.Proofs.YtjgijaocinpkhaaDoor.XU
set_option linter.unusedVariables false
set_option linter.unusedSimpArgs false
open Go Go.RowKit Go.Proofs.YtjgijaocinpkhaaDoorW.PrintWords Go.Proofs.YtjgijaocinpkhaaDoorB

def oth (c : Int) : Int := if c = 84 then 70 else if c = 70 then 84 else c
theorem impl_other_eq (c : Int) : impl_other.f c = some (oth c) := by
  unfold impl_other.f oth
  split
  · rfl
  · split <;> rfl
/-- what is jumped over -/
def jmp (o : Bool) (c x : Int) : Bool := x == oth c || (o && x == c)
theorem goalBy_l0 (a : ByteArray) (hs : a.size ≤ 100) (i : Nat) (hi : i < a.size) (hc : bt a (i : Int) = 84 ∨ bt a (i : Int) = 70) (d : Int) (hd : d = 1 ∨ d = -1) (o b l : Bool) :
    ∀ (e m : Nat), m + e = a.size → ∃ M : Nat, m ≤ M ∧ M ≤ a.size ∧ (∀ j : Nat, m ≤ j → j < M → jmp o (bt a i) (sg a ((i : Int) + d * (j : Int))) = true) ∧ jmp o (bt a i) (sg a ((i : Int) + d * (M : Int))) = false ∧
      ∀ k, e < k → impl_goalBy.l0 k a (i : Int) d ((i : Int) + d * (m : Int)) o b l = some ((i : Int) + d * (M : Int), decide (sg a ((i : Int) + d * (M : Int)) = 46 ∧ (M ≤ 2 ∨ l = true))) := by
  have f0 : (0 : Int) ≤ (i : Int) := by omega
  have f1 : (i : Int) < (a.size : Int) := by omega
  -- a place that is not jumped over ends the way
  have stop : ∀ m : Nat, m ≤ a.size → jmp o (bt a i) (sg a ((i : Int) + d * (m : Int))) = false → ∀ k, 0 < k → impl_goalBy.l0 k a (i : Int) d ((i : Int) + d * (m : Int)) o b l = some ((i : Int) + d * (m : Int), decide (sg a ((i : Int) + d * (m : Int)) = 46 ∧ (m ≤ 2 ∨ l = true))) := by
    intro m hm hj k hk
    obtain ⟨k, rfl⟩ : ∃ q, k = q + 1 := ⟨k - 1, by omega⟩
    have w1 : wrap64 ((i : Int) + d * (m : Int) - (i : Int)) = d * (m : Int) := by rcases hd with rfl | rfl <;> (rw [w64 (by omega) (by omega)]; omega)
    have w2 : wrap64 (d * (m : Int) * d) = (m : Int) := by rcases hd with rfl | rfl <;> (rw [w64 (by omega) (by omega)]; omega)
    have w3 : wrap64 ((m : Int) - 1) = (m : Int) - 1 := w64 (by omega) (by omega)
    unfold jmp at hj
    simp only [Bool.or_eq_false_iff, Bool.and_eq_false_iff, beq_eq_false_iff_ne] at hj
    obtain ⟨j1, j2⟩ := hj
    have fin : (if sg a ((i : Int) + d * (m : Int)) = 46 then (if (m : Int) - 1 ≤ 1 then some ((i : Int) + d * (m : Int), true) else some ((i : Int) + d * (m : Int), l)) else some ((i : Int) + d * (m : Int), false)) = some ((i : Int) + d * (m : Int), decide (sg a ((i : Int) + d * (m : Int)) = 46 ∧ (m ≤ 2 ∨ l = true))) := by
      by_cases q1 : sg a ((i : Int) + d * (m : Int)) = 46
      · rw [if_pos q1]
        by_cases q2 : (m : Int) - 1 ≤ 1
        · rw [if_pos q2, decide_eq_true ⟨q1, .inl (by omega)⟩]
        · rw [if_neg q2]
          cases l with
          | true => rw [decide_eq_true ⟨q1, .inr rfl⟩]
          | false => rw [decide_eq_false (fun h => by rcases h.2 with h | h; omega; cases h)]
      · rw [if_neg q1, decide_eq_false (fun h => q1 h.1)]
    simp only [impl_goalBy.l0, impl_at_eq, impl_other_eq, Option.bind_some]
    rw [if_pos f0, if_pos f1, if_neg j1, w1, w2, w3]
    cases o with
    | true =>
      have j3 : ¬ sg a ((i : Int) + d * (m : Int)) = bt a (i : Int) := by
        rcases j2 with j2 | j2
        · cases j2
        · exact j2
      rw [if_pos rfl, if_neg j3]
      exact fin
    | false =>
      rw [if_neg (by decide)]
      exact fin
  have go : ∀ m : Nat, m < a.size → jmp o (bt a i) (sg a ((i : Int) + d * (m : Int))) = true → ∀ k, impl_goalBy.l0 (k + 1) a (i : Int) d ((i : Int) + d * (m : Int)) o b l = impl_goalBy.l0 k a (i : Int) d ((i : Int) + d * ((m + 1 : Nat) : Int)) o b l := by
    intro m hm hj k
    have w1 : wrap64 ((i : Int) + d * (m : Int) + d) = (i : Int) + d * ((m + 1 : Nat) : Int) := by rcases hd with rfl | rfl <;> (rw [w64 (by omega) (by omega)]; omega)
    unfold jmp at hj
    simp only [Bool.or_eq_true, Bool.and_eq_true, beq_iff_eq] at hj
    simp only [impl_goalBy.l0, impl_at_eq, impl_other_eq, Option.bind_some]
    rw [if_pos f0, if_pos f1, w1]
    by_cases q : sg a ((i : Int) + d * (m : Int)) = oth (bt a (i : Int))
    · rw [if_pos q]
    · rw [if_neg q]
      rcases hj with h | ⟨h1, h2⟩
      · exact absurd h q
      · rw [if_pos h1, if_pos h2]
  intro e
  induction e with
  | zero =>
    intro m hm
    have hout : jmp o (bt a i) (sg a ((i : Int) + d * (m : Int))) = false := by
      have hz : sg a ((i : Int) + d * (m : Int)) = 0 := by
        unfold sg
        rw [if_neg (by rcases hd with rfl | rfl <;> omega)]
      rw [hz]
      unfold jmp oth
      rcases hc with h | h <;> rw [h] <;> cases o <;> decide
    exact ⟨m, Nat.le_refl _, by omega, fun j h1 h2 => by omega, hout, fun k hk => stop m (by omega) hout k (by omega)⟩
  | succ e ih =>
    intro m hm
    cases hj : jmp o (bt a i) (sg a ((i : Int) + d * (m : Int))) with
    | false => exact ⟨m, Nat.le_refl _, by omega, fun j h1 h2 => by omega, hj, fun k hk => stop m (by omega) hj k (by omega)⟩
    | true =>
      obtain ⟨M, h1, h2, h3, h4, h5⟩ := ih (m + 1) (by omega)
      refine ⟨M, by omega, h2, fun j g1 g2 => ?_, h4, fun k hk => ?_⟩
      · by_cases e : j = m
        · subst e; exact hj
        · exact h3 j (by omega) g2
      · obtain ⟨k, rfl⟩ : ∃ q, k = q + 1 := ⟨k - 1, by omega⟩
        rw [go m (by omega) hj k]
        exact h5 k (by omega)
theorem goalBy_eq (a : ByteArray) (hs : a.size ≤ 100) (i : Nat) (hi : i < a.size) (hc : bt a (i : Int) = 84 ∨ bt a (i : Int) = 70) (d : Int) (hd : d = 1 ∨ d = -1) (o b l : Bool) :
    ∃ M : Nat, 1 ≤ M ∧ M ≤ a.size ∧ (∀ j : Nat, 1 ≤ j → j < M → jmp o (bt a i) (sg a ((i : Int) + d * (j : Int))) = true) ∧ jmp o (bt a i) (sg a ((i : Int) + d * (M : Int))) = false ∧
      ∀ k, a.size < k → impl_goalBy.f k a (i : Int) d o b l = some ((i : Int) + d * (M : Int), decide (sg a ((i : Int) + d * (M : Int)) = 46 ∧ (M ≤ 2 ∨ l = true))) := by
  obtain ⟨M, h1, h2, h3, h4, h5⟩ := goalBy_l0 a hs i hi hc d hd o b l (a.size - 1) 1 (by omega)
  refine ⟨M, h1, h2, h3, h4, fun k hk => ?_⟩
  unfold impl_goalBy.f
  rw [← h5 k (by omega)]
  congr 1
  rcases hd with rfl | rfl <;> (rw [w64 (by omega) (by omega)]; omega)
end Go.Proofs.YtjgijaocinpkhaaDoor.XU

namespace Go.Proofs.YtjgijaocinpkhaaDoor.XU
set_option linter.unusedVariables false
set_option linter.unusedSimpArgs false
open Go Go.RowKit Go.Proofs.YtjgijaocinpkhaaDoorW.PrintWords Go.Proofs.YtjgijaocinpkhaaDoorB

instance : DecidableEq S83 := fun x y => decidable_of_iff (x.f0 = y.f0 ∧ x.f1 = y.f1) (by obtain ⟨a, b⟩ := x; obtain ⟨c, d⟩ := y; simp)
/-- all moves from f to a place from j on, e places, that p lets in -/
def collect (p : Int → Bool) (f : Int) : Nat → Nat → List S83
  | 0, _ => []
  | e + 1, j => (if p (j : Int) = true then [⟨f, (j : Int)⟩] else []) ++ collect p f e (j + 1)
theorem collect_length (p : Int → Bool) (f : Int) : ∀ (e j : Nat), (collect p f e j).length ≤ e
  | 0, _ => by simp [collect]
  | e + 1, j => by
    have h := collect_length p f e (j + 1)
    rw [collect, List.length_append]
    split
    · simp; omega
    · simp; omega
theorem collect_none (p : Int → Bool) (f : Int) : ∀ (e j : Nat), (∀ t : Nat, j ≤ t → t < j + e → p (t : Int) = false) → collect p f e j = []
  | 0, _, _ => rfl
  | e + 1, j, h => by
    rw [collect, h j (by omega) (by omega), collect_none p f e (j + 1) (fun t h1 h2 => h t (by omega) (by omega))]
    rfl
theorem collect_split (p : Int → Bool) (f : Int) : ∀ (e1 e2 j : Nat), collect p f (e1 + e2) j = collect p f e1 j ++ collect p f e2 (j + e1)
  | 0, e2, j => by rw [Nat.zero_add]; rfl
  | e1 + 1, e2, j => by
    rw [show e1 + 1 + e2 = (e1 + e2) + 1 from by omega, collect, collect, collect_split p f e1 e2 (j + 1), List.append_assoc, show j + 1 + e1 = j + (e1 + 1) from by omega]
theorem collect_one (p : Int → Bool) (f : Int) (e j g : Nat) (h1 : j ≤ g) (h2 : g < j + e) (h : ∀ t : Nat, j ≤ t → t < j + e → (p (t : Int) = true ↔ t = g)) : collect p f e j = [⟨f, (g : Int)⟩] := by
  obtain ⟨a, rfl⟩ : ∃ a, g = j + a := ⟨g - j, by omega⟩
  obtain ⟨b, rfl⟩ : ∃ b, e = a + (1 + b) := ⟨e - a - 1, by omega⟩
  have no : ∀ t : Nat, j ≤ t → t < j + (a + (1 + b)) → t ≠ j + a → p (t : Int) = false := fun t x y z => by
    cases hp : p (t : Int) with
    | false => rfl
    | true => exact absurd ((h t x y).1 hp) z
  rw [collect_split, collect_split, collect_none p f a j (fun t x y => no t x (by omega) (by omega)), collect_none p f b (j + a + 1) (fun t x y => no t (by omega) (by omega) (by omega))]
  simp only [collect, (h (j + a) (by omega) (by omega)).2 rfl, if_true, List.nil_append, List.append_nil]
theorem collect_mem (p : Int → Bool) (f : Int) (m : S83) : ∀ (e j : Nat), m ∈ collect p f e j ↔ (m.f0 = f ∧ p m.f1 = true ∧ (j : Int) ≤ m.f1 ∧ m.f1 < (j : Int) + e)
  | 0, j => by simp [collect]
  | e + 1, j => by
    rw [collect, List.mem_append, collect_mem p f m e (j + 1)]
    obtain ⟨x, y⟩ := m
    simp only
    constructor
    · rintro (h | h)
      · split at h
        · rename_i hp
          simp only [List.mem_singleton, S83.mk.injEq] at h
          obtain ⟨rfl, rfl⟩ := h
          exact ⟨rfl, hp, by omega, by omega⟩
        · cases h
      · exact ⟨h.1, h.2.1, by omega, by omega⟩
    · rintro ⟨rfl, hp, h1, h2⟩
      by_cases e : y = (j : Int)
      · subst e
        rw [if_pos hp]
        exact .inl (by simp)
      · exact .inr ⟨rfl, hp, by omega, by omega⟩
/-- place after place -/
def each (g : Nat → List S83) : Nat → Nat → List S83
  | 0, _ => []
  | d + 1, i => g i ++ each g d (i + 1)
theorem each_length (g : Nat → List S83) (c : Nat) (h : ∀ i, (g i).length ≤ c) : ∀ (d i : Nat), (each g d i).length ≤ d * c
  | 0, _ => by simp [each]
  | d + 1, i => by
    have h1 := each_length g c h d (i + 1)
    have h2 := h i
    rw [each, List.length_append, Nat.add_mul]
    omega
theorem each_congr (g g' : Nat → List S83) : ∀ (d i : Nat), (∀ j, i ≤ j → j < i + d → g j = g' j) → each g d i = each g' d i
  | 0, _, _ => rfl
  | d + 1, i, h => by rw [each, each, h i (by omega) (by omega), each_congr g g' d (i + 1) (fun j h1 h2 => h j (by omega) (by omega))]
theorem each_mem (g : Nat → List S83) (m : S83) : ∀ (d i : Nat), m ∈ each g d i ↔ ∃ j, i ≤ j ∧ j < i + d ∧ m ∈ g j
  | 0, i => by simp [each]; omega
  | d + 1, i => by
    rw [each, List.mem_append, each_mem g m d (i + 1)]
    constructor
    · rintro (h | ⟨j, h1, h2, h3⟩)
      · exact ⟨i, by omega, by omega, h⟩
      · exact ⟨j, by omega, by omega, h3⟩
    · rintro ⟨j, h1, h2, h3⟩
      by_cases e : j = i
      · subst e; exact .inl h3
      · exact .inr ⟨j, by omega, by omega, h3⟩
theorem rd_drop (l : List S83) (i : Nat) (hi : i < l.length) : l.drop i = rd_T83 l (i : Int) :: l.drop (i + 1) := by
  rw [List.drop_eq_getElem_cons hi]
  unfold rd_T83
  rw [Int.toNat_natCast, List.getD_eq_getElem?_getD, List.getElem?_eq_getElem hi]
  rfl
end Go.Proofs.YtjgijaocinpkhaaDoor.XU

namespace Go.Proofs.YtjgijaocinpkhaaDoor.XU
set_option linter.unusedVariables false
set_option linter.unusedSimpArgs false
open Go Go.RowKit Go.Proofs.YtjgijaocinpkhaaDoorW.PrintWords Go.Proofs.YtjgijaocinpkhaaDoorB

/-- where the stone of a place goes in a direction, if it can -/
def bgo (a : ByteArray) (o b l : Bool) (i : Nat) (d : Int) : Option Int :=
  if (bt a (i : Int) = 84 ∨ bt a (i : Int) = 70) ∧ ((bt a (i : Int) = 84 ↔ d = 1) ∨ b = true) then (match impl_goalBy.f 200 a (i : Int) d o b l with | some (t, true) => some t | _ => none) else none
theorem jmp_46 {o : Bool} {c : Int} (hc : c = 84 ∨ c = 70) : jmp o c 46 = false := by
  unfold jmp oth
  rcases hc with rfl | rfl <;> cases o <;> decide
theorem bgo_iff (a : ByteArray) (hs : a.size ≤ 100) (o b l : Bool) (i : Nat) (hi : i < a.size) (d : Int) (hd : d = 1 ∨ d = -1) (t : Int) :
    bgo a o b l i d = some t ↔ (bt a (i : Int) = 84 ∨ bt a (i : Int) = 70) ∧ ((bt a (i : Int) = 84 ↔ d = 1) ∨ b = true) ∧ ∃ m : Nat, 1 ≤ m ∧ t = (i : Int) + d * (m : Int) ∧ (∀ j : Nat, 1 ≤ j → j < m → jmp o (bt a i) (sg a ((i : Int) + d * (j : Int))) = true) ∧ sg a t = 46 ∧ (m ≤ 2 ∨ l = true) := by
  unfold bgo
  by_cases h : (bt a (i : Int) = 84 ∨ bt a (i : Int) = 70) ∧ ((bt a (i : Int) = 84 ↔ d = 1) ∨ b = true)
  case neg =>
    rw [if_neg h]
    exact ⟨(fun h1 => nomatch h1), fun h1 => absurd ⟨h1.1, h1.2.1⟩ h⟩
  rw [if_pos h]
  obtain ⟨M, h1, h2, h3, h4, h5⟩ := goalBy_eq a hs i hi h.1 d hd o b l
  rw [h5 200 (by omega)]
  constructor
  · intro h6
    by_cases q : sg a ((i : Int) + d * (M : Int)) = 46 ∧ (M ≤ 2 ∨ l = true)
    · rw [decide_eq_true q] at h6
      simp only [Option.some.injEq] at h6
      subst h6
      exact ⟨h.1, h.2, M, h1, rfl, h3, q.1, q.2⟩
    · rw [decide_eq_false q] at h6
      cases h6
  · rintro ⟨_, _, m, m1, rfl, m3, m4, m5⟩
    have e : m = M := by
      rcases Nat.lt_trichotomy m M with g | g | g
      · have := h3 m m1 g
        rw [m4, jmp_46 h.1] at this
        cases this
      · exact g
      · have := m3 M h1 g
        rw [h4] at this
        cases this
    subst e
    rw [decide_eq_true ⟨m4, m5⟩]
def bcan (a : ByteArray) (o b l : Bool) (f t : Int) : Bool := decide (0 ≤ f ∧ f < (a.size : Int)) && (bgo a o b l f.toNat (-1) == some t || bgo a o b l f.toNat 1 == some t)
def allJ (a : ByteArray) (o : Bool) (i : Nat) (d : Int) : Nat → Nat → Bool
  | 0, _ => true
  | e + 1, m => jmp o (bt a i) (sg a ((i : Int) + d * (m : Int))) && allJ a o i d e (m + 1)
theorem allJ_iff (a : ByteArray) (o : Bool) (i : Nat) (d : Int) : ∀ (e m : Nat), allJ a o i d e m = true ↔ ∀ j : Nat, m ≤ j → j < m + e → jmp o (bt a i) (sg a ((i : Int) + d * (j : Int))) = true
  | 0, m => by
    refine ⟨fun _ j h1 h2 => by omega, fun _ => rfl⟩
  | e + 1, m => by
    rw [allJ, Bool.and_eq_true, allJ_iff a o i d e (m + 1)]
    constructor
    · rintro ⟨h1, h2⟩ j g1 g2
      by_cases q : j = m
      · subst q; exact h1
      · exact h2 j (by omega) (by omega)
    · intro h
      exact ⟨h m (by omega) (by omega), fun j g1 g2 => h j (by omega) (by omega)⟩
theorem sgn_three {a : ByteArray} (h : a.data.toList.all sgn = true) {i : Int} (h0 : 0 ≤ i) (h1 : i < (a.size : Int)) : bt a i = 84 ∨ bt a i = 70 ∨ bt a i = 46 := by
  obtain ⟨n, rfl⟩ : ∃ n : Nat, i = (n : Int) := ⟨i.toNat, by omega⟩
  obtain ⟨c, hd, hb⟩ := bt_eq a n (by omega)
  have hc : c ∈ a.data.toList := List.mem_of_mem_drop (by rw [hd]; exact List.mem_cons_self)
  have h2 := List.all_eq_true.1 h c hc
  unfold sgn at h2
  simp only [Bool.or_eq_true, beq_iff_eq] at h2
  rw [hb]
  rcases h2 with (rfl | rfl) | rfl <;> decide
theorem jmp_sgn {o : Bool} {c x : Int} (hc : c = 84 ∨ c = 70) (hx : x = 84 ∨ x = 70 ∨ x = 46) : jmp o c x = if x = 46 then false else if x = c then o else true := by
  unfold jmp oth
  rcases hc with rfl | rfl <;> rcases hx with rfl | rfl | rfl <;> cases o <;> decide
theorem wd1 {d : Int} (hd : d = 1 ∨ d = -1) {m : Nat} (hm : m ≤ 100) : wrap64 ((m : Int) * d) = d * (m : Int) := by rcases hd with rfl | rfl <;> (rw [w64 (by omega) (by omega)]; omega)
theorem wd2 {d : Int} (hd : d = 1 ∨ d = -1) {m i : Nat} (hm : m ≤ 100) (hi : i ≤ 100) : wrap64 ((i : Int) + d * (m : Int)) = (i : Int) + d * (m : Int) := by rcases hd with rfl | rfl <;> exact w64 (by omega) (by omega)
theorem wd3 {m : Nat} (hm : m ≤ 100) : wrap64 ((m : Int) + 1) = ((m + 1 : Nat) : Int) := by rw [w64 (by omega) (by omega)]; rfl
theorem ruCan_l0 (a : ByteArray) (hs : a.size ≤ 100) (hl : a.data.toList.all sgn = true) (i : Nat) (hi : i < a.size) (hc : bt a (i : Int) = 84 ∨ bt a (i : Int) = 70) (d : Int) (hd : d = 1 ∨ d = -1) (n : Nat) (t : Int) (ht : t = (i : Int) + d * (n : Int)) (t0 : 0 ≤ t) (t1 : t < (a.size : Int)) (o b l : Bool) :
    ∀ (e m k : Nat), 1 ≤ m → m + e = n → e < k → spec_ruCan.l0 k a d (n : Int) (m : Int) (i : Int) t o b l = some (allJ a o i d e m) := by
  intro e
  induction e with
  | zero =>
    intro m k h1 hm hk
    obtain ⟨k, rfl⟩ : ∃ q, k = q + 1 := ⟨k - 1, by omega⟩
    simp only [spec_ruCan.l0]
    rw [if_neg (by omega), allJ]
  | succ e ih =>
    intro m k h1 hm hk
    obtain ⟨k, rfl⟩ : ∃ q, k = q + 1 := ⟨k - 1, by omega⟩
    have hn : n ≤ 100 := by rcases hd with rfl | rfl <;> omega
    have g0 : 0 ≤ (i : Int) + d * (m : Int) := by rcases hd with rfl | rfl <;> omega
    have g1 : (i : Int) + d * (m : Int) < (a.size : Int) := by rcases hd with rfl | rfl <;> omega
    have step := ih (m + 1) k (by omega) (by omega) (by omega)
    have g2 := sgn_three hl g0 g1
    have z0 : (m : Int) < (n : Int) := by omega
    have z1 : (0 : Int) ≤ (i : Int) := by omega
    have z2 : (i : Int) < (a.size : Int) := by omega
    have m1 : m ≤ 100 := by omega
    have i1 : i ≤ 100 := by omega
    have w1 := wd1 hd m1
    have w2 := wd2 hd m1 i1
    have w3 := wd3 m1
    simp only [spec_ruCan.l0]
    rw [w1, w2, w3, if_pos z0, if_pos g0, if_pos g1, allJ, sg_in g0 g1, jmp_sgn hc g2]
    by_cases q1 : bt a ((i : Int) + d * (m : Int)) = 46
    · rw [if_pos q1, if_pos q1, Bool.false_and]
    · rw [if_neg q1, if_neg q1, if_pos z1, if_pos z2]
      by_cases q2 : bt a ((i : Int) + d * (m : Int)) = bt a (i : Int)
      · rw [if_pos q2, if_pos q2]
        cases o with
        | true => rw [if_pos rfl, step, Bool.true_and]
        | false => rw [if_neg (by decide), Bool.false_and]
      · rw [if_neg q2, if_neg q2, step, Bool.true_and]
theorem ruCan_dir (a : ByteArray) (hs : a.size ≤ 100) (hl : a.data.toList.all sgn = true) (i : Nat) (hi : i < a.size) (hc : bt a (i : Int) = 84 ∨ bt a (i : Int) = 70) (d : Int) (hd : d = 1 ∨ d = -1) (n : Nat) (hn : 1 ≤ n) (t : Int) (ht : t = (i : Int) + d * (n : Int)) (t0 : 0 ≤ t) (t1 : t < (a.size : Int)) (h46 : bt a t = 46) (o b l : Bool) (k : Nat) (hk : 110 ≤ k) :
    spec_ruCan.j1 k a d (i : Int) t o b l = some (bgo a o b l i d == some t) := by
  obtain ⟨k, rfl⟩ : ∃ q, k = q + 3 := ⟨k - 3, by omega⟩
  have hn2 : n ≤ 100 := by rcases hd with rfl | rfl <;> omega
  have w1 : wrap64 (wrap64 (t - (i : Int)) * d) = (n : Int) := by subst ht; rcases hd with rfl | rfl <;> (rw [w64 (x := _ - _) (by omega) (by omega), w64 (by omega) (by omega)]; omega)
  have z1 : (0 : Int) ≤ (i : Int) := by omega
  have z2 : (i : Int) < (a.size : Int) := by omega
  have loop := ruCan_l0 a hs hl i hi hc d hd n t ht t0 t1 o b l (n - 1) 1 k (by omega) (by omega) (by omega)
  have loop : spec_ruCan.l0 k a d (n : Int) 1 (i : Int) t o b l = some (allJ a o i d (n - 1) 1) := loop
  have hbg : (bgo a o b l i d == some t) = ((decide (bt a (i : Int) = 84 ↔ d = 1) || b) && ((decide (n ≤ 2) || l) && allJ a o i d (n - 1) 1)) := by
    rw [Bool.eq_iff_iff, beq_iff_eq, bgo_iff a hs o b l i hi d hd t, Bool.and_eq_true, Bool.and_eq_true, Bool.or_eq_true, Bool.or_eq_true, decide_eq_true_eq, decide_eq_true_eq, allJ_iff]
    constructor
    · rintro ⟨_, h2, m, m1, m2, m3, _, m5⟩
      have e : m = n := by subst ht; rcases hd with rfl | rfl <;> omega
      subst e
      exact ⟨h2, m5, fun j g1 g2 => m3 j g1 (by omega)⟩
    · rintro ⟨h2, h5, h3⟩
      exact ⟨hc, h2, n, hn, ht, fun j g1 g2 => h3 j g1 (by omega), (sg_in t0 t1).trans h46, h5⟩
  have hcond : ((bt a (i : Int) == 84) != decide (d > 0)) = !decide (bt a (i : Int) = 84 ↔ d = 1) := by
    rcases hc with h | h <;> rcases hd with rfl | rfl <;> simp [h]
  rw [hbg]
  simp only [spec_ruCan.j1, spec_ruCan.j2, spec_ruCan.j3]
  rw [if_pos z1, if_pos z2, hcond, w1, loop]
  have hgt : ((n : Int) > 2) ↔ ¬ n ≤ 2 := by omega
  generalize allJ a o i d (n - 1) 1 = A
  by_cases q2 : n ≤ 2
  · rw [if_neg (fun h => hgt.1 h q2), decide_eq_true q2]
    cases decide (bt a (i : Int) = 84 ↔ d = 1) <;> cases b <;> cases l <;> cases A <;> rfl
  · rw [if_pos (hgt.2 q2), decide_eq_false q2]
    cases decide (bt a (i : Int) = 84 ↔ d = 1) <;> cases b <;> cases l <;> cases A <;> rfl
theorem bgo_in {a : ByteArray} (hs : a.size ≤ 100) {o b l : Bool} {i : Nat} (hi : i < a.size) {d : Int} (hd : d = 1 ∨ d = -1) {t : Int} (h : bgo a o b l i d = some t) : 0 ≤ t ∧ t < (a.size : Int) ∧ bt a t = 46 ∧ (bt a (i : Int) = 84 ∨ bt a (i : Int) = 70) ∧ (d = 1 → (i : Int) < t) ∧ (d = -1 → t < (i : Int)) := by
  obtain ⟨h1, _, m, m1, m2, _, m4, _⟩ := (bgo_iff a hs o b l i hi d hd t).1 h
  obtain ⟨g0, g1, g2⟩ := sg_is m4 (by decide)
  exact ⟨g0, g1, g2, h1, fun e => by subst e; omega, fun e => by subst e; omega⟩
theorem ruCan_eq (a : ByteArray) (hs1 : 1 ≤ a.size) (hs : a.size ≤ 10) (hl : a.data.toList.all sgn = true) (f t : Int) (o b l : Bool) (k : Nat) (hk : 120 ≤ k) : spec_ruCan.f k a f t o b l = some (bcan a o b l f t) := by
  obtain ⟨k, rfl⟩ : ∃ m, k = m + 1 := ⟨k - 1, by omega⟩
  unfold spec_ruCan.f
  have e : wrap64 ((a.size : Int) - 1) = (a.size : Int) - 1 := w64 (by omega) (by omega)
  rw [e, l1In_eq, l1In_eq]
  simp only [Option.bind_some, spec_ruCan.j0]
  by_cases hf : 0 ≤ f ∧ f ≤ (a.size : Int) - 1
  case neg =>
    unfold bcan
    rw [if_neg (by simp; omega), if_pos trivial, decide_eq_false (fun h => hf ⟨h.1, by omega⟩), Bool.false_and]
  obtain ⟨i, rfl⟩ : ∃ i : Nat, f = (i : Int) := ⟨f.toNat, by omega⟩
  have hi : i < a.size := by omega
  have f1 : (i : Int) < (a.size : Int) := by omega
  have hb : bcan a o b l (i : Int) t = (bgo a o b l i (-1) == some t || bgo a o b l i 1 == some t) := by
    unfold bcan
    rw [decide_eq_true (show 0 ≤ (i : Int) ∧ (i : Int) < (a.size : Int) from ⟨hf.1, f1⟩), Bool.true_and, Int.toNat_natCast]
  have no : ∀ (P : Prop), (0 ≤ t → t < (a.size : Int) → bt a t = 46 → (bt a (i : Int) = 84 ∨ bt a (i : Int) = 70) → False) → bcan a o b l (i : Int) t = false := by
    intro _ h
    rw [hb, Bool.or_eq_false_iff, beq_eq_false_iff_ne, beq_eq_false_iff_ne]
    refine ⟨fun h2 => ?_, fun h2 => ?_⟩
    · obtain ⟨g0, g1, g2, g3, _⟩ := bgo_in (by omega) hi (.inr rfl) h2
      exact h g0 g1 g2 g3
    · obtain ⟨g0, g1, g2, g3, _⟩ := bgo_in (by omega) hi (.inl rfl) h2
      exact h g0 g1 g2 g3
  rw [if_pos (by simp; omega)]
  by_cases ht : 0 ≤ t ∧ t ≤ (a.size : Int) - 1
  case neg =>
    rw [if_neg (by simp; omega), if_pos trivial, no True (fun g0 g1 _ _ => ht ⟨g0, by omega⟩)]
  have t1 : t < (a.size : Int) := by omega
  rw [if_pos (by simp; omega), if_pos hf.1, if_pos f1]
  by_cases q1 : bt a (i : Int) = 46
  · rw [if_pos q1, if_pos trivial, no True (fun _ _ _ g => by omega)]
  rw [if_neg q1, if_pos ht.1, if_pos t1]
  have hc : bt a (i : Int) = 84 ∨ bt a (i : Int) = 70 := by
    rcases sgn_three hl hf.1 f1 with h | h | h
    · exact .inl h
    · exact .inr h
    · exact absurd h q1
  by_cases q2 : bt a t = 46
  case neg =>
    rw [if_pos (by simpa using q2), no True (fun _ _ g _ => q2 g)]
  rw [if_neg (by simp [q2]), hb]
  have hne : t ≠ (i : Int) := fun h => by rw [h] at q2; exact q1 q2
  by_cases q3 : t < (i : Int)
  · rw [if_pos q3, ruCan_dir a (by omega) hl i hi hc (-1) (.inr rfl) (i - t.toNat) (by omega) t (by omega) ht.1 t1 q2 o b l k (by omega)]
    have : (bgo a o b l i 1 == some t) = false := by
      rw [beq_eq_false_iff_ne]
      intro h
      have := (bgo_in (by omega) hi (.inl rfl) h).2.2.2.2.1 rfl
      omega
    rw [this, Bool.or_false]
  · rw [if_neg q3, ruCan_dir a (by omega) hl i hi hc 1 (.inl rfl) (t.toNat - i) (by omega) t (by omega) ht.1 t1 q2 o b l k (by omega)]
    have : (bgo a o b l i (-1) == some t) = false := by
      rw [beq_eq_false_iff_ne]
      intro h
      have := (bgo_in (by omega) hi (.inr rfl) h).2.2.2.2.2 rfl
      omega
    rw [this, Bool.false_or]
end Go.Proofs.YtjgijaocinpkhaaDoor.XU

namespace Go.Proofs.YtjgijaocinpkhaaDoor.XU
set_option linter.unusedVariables false
set_option linter.unusedSimpArgs false
open Go Go.RowKit Go.Proofs.YtjgijaocinpkhaaDoorW.PrintWords Go.Proofs.YtjgijaocinpkhaaDoorB

theorem reFew_eq (a : ByteArray) (hs : a.size ≤ 140737488351232) (k : Nat) (hk : 20 ≤ k) : spec_reFew.f k a = some (isLine 10 a) := by
  unfold spec_reFew.f
  rw [liGood_eq a hs k hk]
  simp only [Option.bind_some]
  unfold isLine
  by_cases h1 : a.size ≤ 10
  · rw [decide_eq_true h1, decide_eq_true (show a.size ≤ 12 by omega), decide_eq_true (show (a.size : Int) ≤ 10 by omega)]
    cases (decide (1 ≤ a.size) && (true && a.data.toList.all sgn)) <;> rfl
  · rw [decide_eq_false h1, decide_eq_false (show ¬ (a.size : Int) ≤ 10 by omega), Bool.false_and, Bool.and_false]
    split <;> rfl
theorem impl_isReachLine_eq (a : ByteArray) (hs : a.size ≤ 140737488351232) : impl_isReachLine.f a = some (isLine 10 a) := by
  unfold impl_isReachLine.f
  rw [show impl_isLineOf.f a 10 = some (isLine 10 a) from isLineOf_eq a 10 hs]
  rfl
def opt (i : Nat) (t : Option Int) : List S83 := match t with | some t => [⟨(i : Int), t⟩] | none => []
theorem opt_length (i : Nat) (t : Option Int) : (opt i t).length ≤ 1 := by unfold opt; split <;> simp
def bmove (a : ByteArray) (o b l : Bool) (i : Nat) : List S83 := opt i (bgo a o b l i (-1)) ++ opt i (bgo a o b l i 1)
theorem bmove_length (a : ByteArray) (o b l : Bool) (i : Nat) : (bmove a o b l i).length ≤ 2 := by
  have h1 := opt_length i (bgo a o b l i (-1))
  have h2 := opt_length i (bgo a o b l i 1)
  unfold bmove
  rw [List.length_append]
  omega
/-- the moves that a rule allows -/
def bmoves (a : ByteArray) (o b l : Bool) : List S83 := each (bmove a o b l) (min a.size 50) 0
theorem bmoves_length (a : ByteArray) (o b l : Bool) : (bmoves a o b l).length ≤ 100 := by
  have := each_length (bmove a o b l) 2 (bmove_length a o b l) (min a.size 50) 0
  unfold bmoves
  omega
theorem bmoves_mem (a : ByteArray) (hs : a.size ≤ 50) (o b l : Bool) (f t : Int) : (⟨f, t⟩ : S83) ∈ bmoves a o b l ↔ bcan a o b l f t = true := by
  unfold bmoves bcan
  rw [each_mem]
  simp only [Bool.and_eq_true, decide_eq_true_eq, Bool.or_eq_true, beq_iff_eq]
  have ho : ∀ (i : Nat) (x : Option Int), (⟨f, t⟩ : S83) ∈ opt i x ↔ f = (i : Int) ∧ x = some t := by
    intro i x
    unfold opt
    cases x with
    | none => simp
    | some y =>
      simp only [List.mem_singleton, S83.mk.injEq, Option.some.injEq]
      exact ⟨fun h => ⟨h.1, h.2.symm⟩, fun h => ⟨h.1, h.2.symm⟩⟩
  constructor
  · rintro ⟨j, _, h2, h3⟩
    unfold bmove at h3
    rw [List.mem_append, ho, ho] at h3
    rcases h3 with ⟨rfl, h⟩ | ⟨rfl, h⟩
    · exact ⟨⟨by omega, by omega⟩, .inl (by rw [Int.toNat_natCast]; exact h)⟩
    · exact ⟨⟨by omega, by omega⟩, .inr (by rw [Int.toNat_natCast]; exact h)⟩
  · rintro ⟨⟨h0, h1⟩, h2⟩
    refine ⟨f.toNat, by omega, by omega, ?_⟩
    unfold bmove
    rw [List.mem_append, ho, ho]
    rcases h2 with h2 | h2
    · exact .inl ⟨by omega, h2⟩
    · exact .inr ⟨by omega, h2⟩
theorem bmoves_can (a : ByteArray) (hs : a.size ≤ 50) (o b l : Bool) (f t : Int) : decide ((⟨f, t⟩ : S83) ∈ bmoves a o b l) = bcan a o b l f t := by
  rw [Bool.eq_iff_iff, decide_eq_true_iff]
  exact bmoves_mem a hs o b l f t
theorem bcan_in {a : ByteArray} (hs : a.size ≤ 100) {o b l : Bool} {f t : Int} (h : bcan a o b l f t = true) : 0 ≤ f ∧ f < (a.size : Int) ∧ 0 ≤ t ∧ t < (a.size : Int) ∧ f ≠ t := by
  unfold bcan at h
  simp only [Bool.and_eq_true, decide_eq_true_eq, Bool.or_eq_true, beq_iff_eq] at h
  obtain ⟨⟨f0, f1⟩, h⟩ := h
  rcases h with h | h
  · obtain ⟨g0, g1, _, _, _, g⟩ := bgo_in hs (by omega) (.inr rfl) h
    have := g rfl
    exact ⟨f0, f1, g0, g1, by omega⟩
  · obtain ⟨g0, g1, _, _, g, _⟩ := bgo_in hs (by omega) (.inl rfl) h
    have := g rfl
    exact ⟨f0, f1, g0, g1, by omega⟩
/-- one direction of the program's loop -/
theorem movesBy_dir (a : ByteArray) (hs : a.size ≤ 100) (i : Nat) (hi : i < a.size) (o b l : Bool) (q : Nat) (hq : q < 2) (d : Int) (hd : d = 1 ∨ d = -1) (hy : rd ([-1, 1] : List Int) (q : Int) = d) (acc : List S83) (ha : acc.length ≤ 1000) (k : Nat) (hk : 300 ≤ k) (R : List S83)
    (H : ∀ acc' k', acc'.length ≤ acc.length + 1 → k ≤ k' + 2 → k' ≤ k → impl_movesBy.l1 k' a acc' (i : Int) (a.size : Int) (i : Int) [-1, 1] 2 ((q + 1 : Nat) : Int) o b l = some (acc' ++ R)) :
    impl_movesBy.l1 k a acc (i : Int) (a.size : Int) (i : Int) [-1, 1] 2 (q : Int) o b l = some (acc ++ (opt i (bgo a o b l i d) ++ R)) := by
  obtain ⟨k, rfl⟩ : ∃ m, k = m + 2 := ⟨k - 2, by omega⟩
  have z1 : (q : Int) < 2 := by omega
  have z2 : (0 : Int) ≤ (q : Int) := by omega
  have z3 : (0 : Int) ≤ (i : Int) := by omega
  have z4 : (i : Int) < (a.size : Int) := by omega
  have z5 : acc.length < 8796093022208 := by omega
  have w : wrap64 ((q : Int) + 1) = ((q + 1 : Nat) : Int) := by rw [w64 (by omega) (by omega)]; rfl
  have skip := H acc k (by omega) (by omega) (by omega)
  have add := fun t : Int => H (acc ++ [⟨(i : Int), t⟩]) k (by rw [List.length_append]; simp) (by omega) (by omega)
  have none_ : bgo a o b l i d = none → some (acc ++ R) = some (acc ++ (opt i (bgo a o b l i d) ++ R)) := fun h => by rw [h]; rfl
  simp only [impl_movesBy.l1, impl_movesBy.j2]
  rw [if_pos z1, if_pos z2, if_pos (show (q : Int) < (([-1, 1] : List Int).length : Int) from z1), if_pos z3, if_pos z4, hy, w, skip]
  unfold impl_stepOf.f
  by_cases hc : bt a (i : Int) = 84 ∨ bt a (i : Int) = 70
  case neg =>
    rw [if_neg (fun h => hc (.inl h)), if_neg (fun h => hc (.inr h))]
    simp only [Option.bind_some, if_true]
    exact none_ (by unfold bgo; rw [if_neg (fun h => hc h.1)])
  obtain ⟨M, h1, h2, h3, h4, h5⟩ := goalBy_eq a hs i hi hc d hd o b l
  have main : ((impl_goalBy.f k a (i : Int) d o b l).bind fun bt277 => (if bt277.2 = true then (if acc.length < 8796093022208 then (impl_movesBy.l1 k a (acc ++ [(⟨(i : Int), bt277.1⟩ : S83)]) (i : Int) (a.size : Int) (i : Int) [-1, 1] 2 ((q + 1 : Nat) : Int) o b l) else (none)) else some (acc ++ R))) = some (acc ++ ((match impl_goalBy.f 200 a (i : Int) d o b l with | some (t, true) => opt i (some t) | _ => []) ++ R)) := by
    rw [h5 k (by omega), h5 200 (by omega)]
    simp only [Option.bind_some]
    by_cases q1 : sg a ((i : Int) + d * (M : Int)) = 46 ∧ (M ≤ 2 ∨ l = true)
    · rw [decide_eq_true q1, if_pos rfl, if_pos z5, add, List.append_assoc]
      rfl
    · rw [decide_eq_false q1, if_neg (by decide)]
      rfl
  have yes : ((bt a (i : Int) = 84 ↔ d = 1) ∨ b = true) → some (acc ++ ((match impl_goalBy.f 200 a (i : Int) d o b l with | some (t, true) => opt i (some t) | _ => []) ++ R)) = some (acc ++ (opt i (bgo a o b l i d) ++ R)) := by
    intro h
    unfold bgo
    rw [if_pos ⟨hc, h⟩, h5 200 (by omega)]
    cases decide (sg a ((i : Int) + d * (M : Int)) = 46 ∧ (M ≤ 2 ∨ l = true)) <;> rfl
  have hne : ¬ ((bt a (i : Int) = 84 ↔ d = 1) ∨ b = true) → bgo a o b l i d = none := fun h => by unfold bgo; rw [if_neg (fun h2 => h h2.2)]
  by_cases c84 : bt a (i : Int) = 84
  · rw [if_pos c84]
    simp only [Option.bind_some]
    rw [if_neg (by decide)]
    rcases hd with rfl | rfl
    · rw [if_pos rfl, if_neg (by decide), main, yes (.inl (by simp [c84]))]
    · rw [if_neg (by decide)]
      cases b with
      | true => rw [if_neg (by decide), main, yes (.inr rfl)]
      | false => rw [if_pos (show (!false) = true from rfl), none_ (hne (by simp [c84]))]
  · rw [if_neg c84, if_pos (hc.resolve_left c84)]
    simp only [Option.bind_some]
    rw [if_neg (by decide)]
    rcases hd with rfl | rfl
    · rw [if_neg (by decide)]
      cases b with
      | true => rw [if_neg (by decide), main, yes (.inr rfl)]
      | false => rw [if_pos (show (!false) = true from rfl), none_ (hne (by simp [c84]))]
    · rw [if_pos rfl, if_neg (by decide), main, yes (.inl (by simp [c84]))]
theorem movesBy_l0 (a : ByteArray) (hs : a.size ≤ 50) (o b l : Bool) : ∀ (d i : Nat) (acc : List S83) (k : Nat), i + d = a.size → acc.length + 2 * d ≤ 200 → d * 10 + 400 ≤ k → impl_movesBy.l0 k a acc (a.size : Int) (i : Int) o b l = some (acc ++ each (bmove a o b l) d i) := by
  intro d
  induction d with
  | zero =>
    intro i acc k hi ha hk
    obtain ⟨k, rfl⟩ : ∃ m, k = m + 1 := ⟨k - 1, by omega⟩
    simp only [impl_movesBy.l0]
    rw [if_neg (by omega), each, List.append_nil]
  | succ d ih =>
    intro i acc k hi ha hk
    obtain ⟨k, rfl⟩ : ∃ m, k = m + 1 := ⟨k - 1, by omega⟩
    simp only [impl_movesBy.l0]
    rw [if_pos (by omega)]
    simp only [Option.bind_some]
    rw [each, bmove, List.append_assoc]
    refine movesBy_dir a (by omega) i (by omega) o b l 0 (by omega) (-1) (.inr rfl) rfl acc (by omega) k (by omega) _ fun acc1 k1 h1 h2 h3 => ?_
    refine movesBy_dir a (by omega) i (by omega) o b l 1 (by omega) 1 (.inl rfl) rfl acc1 (by omega) k1 (by omega) _ fun acc2 k2 g1 g2 g3 => ?_
    obtain ⟨k2, rfl⟩ : ∃ m, k2 = m + 1 := ⟨k2 - 1, by omega⟩
    have w : wrap64 ((i : Int) + 1) = ((i + 1 : Nat) : Int) := by rw [w64 (by omega) (by omega)]; rfl
    simp only [impl_movesBy.l1]
    rw [if_neg (by decide), w]
    exact ih (i + 1) acc2 k2 (by omega) (by omega) (by omega)
theorem movesBy_eq (a : ByteArray) (hs1 : 1 ≤ a.size) (hs : a.size ≤ 10) (hl : a.data.toList.all sgn = true) (o b l : Bool) (k : Nat) (hk : 1000 ≤ k) : impl_movesBy.f k a o b l = some (bmoves a o b l) := by
  have h := movesBy_l0 a (by omega) o b l a.size 0 [] k (by omega) (by simp; omega) (by omega)
  unfold impl_movesBy.f bmoves
  rw [show min a.size 50 = a.size from by omega]
  exact h
theorem collect_bmove (a : ByteArray) (hs : a.size ≤ 100) (o b l : Bool) (i : Nat) (hi : i < a.size) : collect (bcan a o b l (i : Int)) (i : Int) a.size 0 = bmove a o b l i := by
  have f1 : 0 ≤ (i : Int) ∧ (i : Int) < (a.size : Int) := by omega
  have hb : ∀ t, bcan a o b l (i : Int) t = (bgo a o b l i (-1) == some t || bgo a o b l i 1 == some t) := fun t => by
    unfold bcan
    rw [decide_eq_true f1, Bool.true_and, Int.toNat_natCast]
  obtain ⟨e, he⟩ : ∃ e, a.size = i + e := ⟨a.size - i, by omega⟩
  rw [he, collect_split, Nat.zero_add]
  unfold bmove
  congr 1
  · have hno : ∀ t : Nat, t < i → (bgo a o b l i 1 == some (t : Int)) = false := fun t ht => by
      rw [beq_eq_false_iff_ne]
      intro h
      have := (bgo_in hs hi (.inl rfl) h).2.2.2.2.1 rfl
      omega
    cases hg : bgo a o b l i (-1) with
    | none => exact collect_none _ _ _ _ (fun t _ h => by rw [hb, hg, hno t (by omega)]; rfl)
    | some g =>
      obtain ⟨g0, g1, _, _, _, g2⟩ := bgo_in hs hi (.inr rfl) hg
      have g2 := g2 rfl
      obtain ⟨m, rfl⟩ : ∃ m : Nat, g = (m : Int) := ⟨g.toNat, by omega⟩
      refine collect_one _ _ _ _ m (by omega) (by omega) (fun t _ h => ?_)
      rw [hb, hg, hno t (by omega), Bool.or_false, beq_iff_eq, Option.some.injEq]
      omega
  · have hno : ∀ t : Nat, i ≤ t → (bgo a o b l i (-1) == some (t : Int)) = false := fun t ht => by
      rw [beq_eq_false_iff_ne]
      intro h
      have := (bgo_in hs hi (.inr rfl) h).2.2.2.2.2 rfl
      omega
    cases hg : bgo a o b l i 1 with
    | none => exact collect_none _ _ _ _ (fun t h _ => by rw [hb, hg, hno t (by omega)]; rfl)
    | some g =>
      obtain ⟨g0, g1, _, _, g2, _⟩ := bgo_in hs hi (.inl rfl) hg
      have g2 := g2 rfl
      obtain ⟨m, rfl⟩ : ∃ m : Nat, g = (m : Int) := ⟨g.toNat, by omega⟩
      refine collect_one _ _ _ _ m (by omega) (by omega) (fun t h _ => ?_)
      rw [hb, hg, hno t (by omega), Bool.false_or, beq_iff_eq, Option.some.injEq]
      omega
end Go.Proofs.YtjgijaocinpkhaaDoor.XU

namespace Go.Proofs.YtjgijaocinpkhaaDoor.XU
set_option linter.unusedVariables false
set_option linter.unusedSimpArgs false
open Go Go.RowKit Go.Proofs.YtjgijaocinpkhaaDoorW.PrintWords Go.Proofs.YtjgijaocinpkhaaDoorB

theorem bt_lt' {a : ByteArray} (h : a.data.toList.all sgn = true) {i : Nat} (hi : i < a.size) : bt a (i : Int) < 128 := by
  rcases sgn_three h (i := (i : Int)) (by omega) (by omega) with h | h | h <;> omega
theorem ruMoves_l1 (a : ByteArray) (hs1 : 1 ≤ a.size) (hs : a.size ≤ 10) (hl : a.data.toList.all sgn = true) (o b l : Bool) (i : Nat) (R : List S83) (K M : Nat)
    (H : ∀ (acc : List S83) (k : Nat), acc.length + M ≤ 200 → K ≤ k → spec_ruMoves.l0 k a acc o b l ((i + 1 : Nat) : Int) a = some (acc ++ R)) :
    ∀ (e j k : Nat) (acc : List S83), j + e = a.size → e + K + 130 ≤ k → acc.length + e + M ≤ 200 → spec_ruMoves.l1 k a acc (i : Int) o b l ((i + 1 : Nat) : Int) a (j : Int) a = some (acc ++ (collect (bcan a o b l (i : Int)) (i : Int) e j ++ R)) := by
  intro e
  induction e with
  | zero =>
    intro j k acc hj hk hle
    obtain ⟨k, rfl⟩ : ∃ m, k = m + 1 := ⟨k - 1, by omega⟩
    simp only [spec_ruMoves.l1]
    rw [if_pos (by omega), if_neg (by omega), H acc k (by omega) (by omega), collect, List.nil_append]
  | succ e ih =>
    intro j k acc hj hk hle
    obtain ⟨k, rfl⟩ : ∃ m, k = m + 1 := ⟨k - 1, by omega⟩
    simp only [spec_ruMoves.l1]
    have w : ((j : Int) + 1) = ((j + 1 : Nat) : Int) := rfl
    have z : acc.length < 8796093022208 := by omega
    have t1 := ih (j + 1) k acc (by omega) (by omega) (by omega)
    have t2 := ih (j + 1) k (acc ++ [⟨(i : Int), (j : Int)⟩]) (by omega) (by omega) (by rw [List.length_append, List.length_singleton]; omega)
    rw [if_pos (by omega), if_pos (by omega), if_pos (bt_lt' hl (by omega)), ruCan_eq a hs1 hs hl _ _ o b l k (by omega), w, collect]
    simp only [Option.bind_some]
    by_cases h : bcan a o b l (i : Int) (j : Int) = true
    · rw [if_pos h, if_pos h, if_pos z, t2, List.append_assoc, List.append_assoc]
    · rw [if_neg h, if_neg h, t1, List.nil_append]
theorem ruMoves_l0 (a : ByteArray) (hs1 : 1 ≤ a.size) (hs : a.size ≤ 10) (hl : a.data.toList.all sgn = true) (o b l : Bool) : ∀ (d i : Nat), i + d = a.size → ∀ (acc : List S83) (k : Nat), acc.length + d * 10 ≤ 200 → d * 150 + 150 ≤ k →
    spec_ruMoves.l0 k a acc o b l (i : Int) a = some (acc ++ each (fun j => collect (bcan a o b l (j : Int)) (j : Int) a.size 0) d i) := by
  intro d
  induction d with
  | zero =>
    intro i hi acc k hle hk
    obtain ⟨k, rfl⟩ : ∃ m, k = m + 1 := ⟨k - 1, by omega⟩
    simp only [spec_ruMoves.l0]
    rw [if_pos (by omega), if_neg (by omega), each, List.append_nil]
  | succ d ih =>
    intro i hi acc k hle hk
    obtain ⟨k, rfl⟩ : ∃ m, k = m + 1 := ⟨k - 1, by omega⟩
    simp only [spec_ruMoves.l0]
    have H : ∀ (l' : List S83) (k : Nat), l'.length + d * 10 ≤ 200 → d * 150 + 150 ≤ k → spec_ruMoves.l0 k a l' o b l ((i + 1 : Nat) : Int) a = some (l' ++ each (fun j => collect (bcan a o b l (j : Int)) (j : Int) a.size 0) d (i + 1)) := ih (i + 1) (by omega)
    have w : ((i : Int) + 1) = ((i + 1 : Nat) : Int) := rfl
    rw [if_pos (by omega), if_pos (by omega), if_pos (bt_lt' hl (by omega)), w, each]
    exact ruMoves_l1 a hs1 hs hl o b l i _ (d * 150 + 150) (d * 10) H a.size 0 k acc (by omega) (by omega) (by omega)
theorem ruMoves_eq (a : ByteArray) (hs1 : 1 ≤ a.size) (hs : a.size ≤ 10) (hl : a.data.toList.all sgn = true) (o b l : Bool) (k : Nat) (hk : 1700 ≤ k) : spec_ruMoves.f k a o b l = some (bmoves a o b l) := by
  unfold spec_ruMoves.f bmoves
  have h := ruMoves_l0 a hs1 hs hl o b l a.size 0 (by omega) [] k (by simp; omega) (by omega)
  rw [each_congr _ (bmove a o b l) a.size 0 (fun j _ h => collect_bmove a (by omega) o b l j (by omega)), List.nil_append] at h
  rw [show min a.size 50 = a.size from by omega]
  exact h
end Go.Proofs.YtjgijaocinpkhaaDoor.XU

namespace Go.Proofs.YtjgijaocinpkhaaDoor.XU
set_option linter.unusedVariables false
set_option linter.unusedSimpArgs false
open Go Go.RowKit Go.Proofs.YtjgijaocinpkhaaDoorW.PrintWords Go.Proofs.YtjgijaocinpkhaaDoorB

theorem ba_eq {x y : ByteArray} (h : x.data.toList = y.data.toList) : x = y := by rw [← Lib.mk_data x, ← Lib.mk_data y, h]
theorem list_extract (a : ByteArray) (i j : Nat) : (a.extract i j).data.toList = (a.data.toList.drop i).take (j - i) := by
  simp
theorem list_append (x y : ByteArray) : (x ++ y).data.toList = x.data.toList ++ y.data.toList := by simp
/-- the text with the sign of one place moved to another -/
def mv (a : ByteArray) (f t : Int) : ByteArray := ⟨((a.data.toList.set t.toNat (a.data.toList.getD f.toNat 0)).set f.toNat 46).toArray⟩
theorem mv_size (a : ByteArray) (f t : Int) : (mv a f t).size = a.size := by
  unfold mv ByteArray.size
  simp
theorem liPut_eq (a : ByteArray) (hs : a.size ≤ 1000) (i : Nat) (hi : i < a.size) (c : UInt8) : spec_liPut.f a (i : Int) ⟨#[c]⟩ = some ⟨(a.data.toList.set i c).toArray⟩ := by
  unfold spec_liPut.f
  rw [w64_succ (n := a.size) hi (by omega), Int.toNat_natCast, Int.toNat_natCast]
  have s1 : (a.extract 0 i).size = i := by rw [ByteArray.size_extract]; omega
  have s2 : (⟨#[c]⟩ : ByteArray).size = 1 := rfl
  have s3 : (a.extract (i + 1) a.size).size = a.size - (i + 1) := by rw [ByteArray.size_extract]; omega
  rw [if_pos (by omega), if_pos (by omega), if_pos (by rw [s1, s2]; omega), if_pos (by omega), if_pos (by omega), if_pos (by rw [ByteArray.size_append, s1, s2, s3]; omega)]
  congr 1
  apply ba_eq
  have hl : i < a.data.toList.length := by rw [data_length]; exact hi
  rw [list_append, list_append, list_extract, list_extract, List.set_eq_take_append_cons_drop, if_pos hl, List.take_of_length_le (l := List.drop (i + 1) a.data.toList) (by rw [List.length_drop, data_length]; exact Nat.le_refl _)]
  simp
theorem extract_one (a : ByteArray) (i : Nat) (hi : i < a.size) : a.extract i (i + 1) = ⟨#[a.data.toList.getD i 0]⟩ := by
  apply ba_eq
  have hl : i < a.data.toList.length := by rw [data_length]; exact hi
  rw [list_extract, List.drop_eq_getElem_cons hl, show i + 1 - i = 1 from by omega, List.getD_eq_getElem?_getD, List.getElem?_eq_getElem hl]
  rfl
theorem liMake_eq (a : ByteArray) (hs : a.size ≤ 1000) (f t : Int) (f0 : 0 ≤ f) (f1 : f < (a.size : Int)) (t0 : 0 ≤ t) (t1 : t < (a.size : Int)) (ne : f ≠ t) : spec_liMake.f a f t = some (mv a f t) := by
  obtain ⟨i, rfl⟩ : ∃ i : Nat, f = (i : Int) := ⟨f.toNat, by omega⟩
  obtain ⟨j, rfl⟩ : ∃ j : Nat, t = (j : Int) := ⟨t.toNat, by omega⟩
  unfold spec_liMake.f mv
  rw [w64_succ (n := a.size) (by omega) (by omega), Int.toNat_natCast, Int.toNat_natCast, Int.toNat_natCast, if_pos (by omega), if_pos (by omega), if_pos (by omega), liPut_eq a hs i (by omega) 46, extract_one a i (by omega)]
  simp only [Option.bind_some]
  have e : (⟨(a.data.toList.set i 46).toArray⟩ : ByteArray).size = a.size := by unfold ByteArray.size; simp
  rw [liPut_eq _ (by omega) j (by omega)]
  simp only [Option.bind_some]
  congr 2
  rw [List.set_comm _ _ (show j ≠ i from by omega)]
theorem impl_made_eq (a : ByteArray) (hs : a.size ≤ 1000) (f t : Int) (f0 : 0 ≤ f) (f1 : f < (a.size : Int)) (t0 : 0 ≤ t) (t1 : t < (a.size : Int)) (ne : f ≠ t) : impl_made.f a f t = some (mv a f t) :=
  if_pos ⟨by omega, f0, f1, t0, t1, ne⟩
end Go.Proofs.YtjgijaocinpkhaaDoor.XU

namespace Go.Proofs.YtjgijaocinpkhaaDoor.XU
set_option linter.unusedVariables false
set_option linter.unusedSimpArgs false
open Go Go.RowKit Go.Proofs.YtjgijaocinpkhaaDoorW.PrintWords Go.Proofs.YtjgijaocinpkhaaDoorB Go.Proofs.YtjgijaocinpkhaaDoor.Pm Go.Proofs.YtjgijaocinpkhaaDoor.Srts

/-- lines of n signs -/
def lineN (n : Nat) (x : ByteArray) : Prop := x.size = n ∧ x.data.toList.all sgn = true
def words3 : Nat → List (List UInt8)
  | 0 => [[]]
  | n + 1 => (words3 n).flatMap fun w => [84 :: w, 70 :: w, 46 :: w]
theorem flat3_length {α β : Type} (f : α → List β) (h : ∀ x, (f x).length = 3) : ∀ l : List α, (l.flatMap f).length = 3 * l.length
  | [] => rfl
  | a :: l => by rw [List.flatMap_cons, List.length_append, h, flat3_length f h l, List.length_cons]; omega
theorem words3_length : ∀ n, (words3 n).length = 3 ^ n
  | 0 => rfl
  | n + 1 => by rw [words3, flat3_length _ (fun _ => rfl), words3_length n, Nat.pow_succ, Nat.mul_comm]
theorem mem_words3 : ∀ (n : Nat) (l : List UInt8), l.length = n → l.all sgn = true → l ∈ words3 n
  | 0, l, h, _ => by rw [List.length_eq_zero_iff.1 h]; exact List.mem_singleton.2 rfl
  | n + 1, [], h, _ => by simp at h
  | n + 1, c :: l, h, ha => by
    rw [List.all_cons, Bool.and_eq_true] at ha
    have ih := mem_words3 n l (by simpa using h) ha.2
    refine List.mem_flatMap.2 ⟨l, ih, ?_⟩
    have hc := ha.1
    unfold sgn at hc
    simp only [Bool.or_eq_true, beq_iff_eq] at hc
    rcases hc with (rfl | rfl) | rfl <;> simp
def allN (n : Nat) : List ByteArray := (words3 n).map fun l => ⟨l.toArray⟩
theorem allN_length (n : Nat) : (allN n).length = 3 ^ n := by unfold allN; rw [List.length_map, words3_length]
theorem allN_mem {n : Nat} {x : ByteArray} (h : lineN n x) : x ∈ allN n :=
  List.mem_map.2 ⟨x.data.toList, mem_words3 n _ (by rw [data_length]; exact h.1) h.2, Lib.mk_data x⟩
theorem lineN_most {n : Nat} (hn : n ≤ 10) {E : List PEnt} (hd : (Bfs.nodes E).Nodup) (hE : ∀ x ∈ Bfs.nodes E, lineN n x) : E.length ≤ 59049 := by
  have h := Bfs.nodup_le hd (fun x hx => allN_mem (hE x hx))
  rw [allN_length, show (Bfs.nodes E).length = E.length from List.length_map _] at h
  have h2 : 3 ^ n ≤ 3 ^ 10 := Nat.pow_le_pow_right (by decide) hn
  omega
/-- the neighbours of a text -/
def nbM (ms : ByteArray → List S83) (x : ByteArray) : List (S83 × ByteArray) := (ms x).map fun m => (m, mv x m.f0 m.f1)
theorem nodes_snoc (E : List PEnt) (e : PEnt) : Bfs.nodes (E ++ [e]) = Bfs.nodes E ++ [e.node] := by simp [Bfs.nodes]
theorem nodup_snoc {E : List PEnt} {e : PEnt} (h : (Bfs.nodes E).Nodup) (hn : e.node ∉ Bfs.nodes E) : (Bfs.nodes (E ++ [e])).Nodup := by
  rw [nodes_snoc]
  refine List.nodup_append.2 ⟨h, by simp, fun a ha b hb e' => ?_⟩
  rw [List.mem_singleton] at hb
  subst hb
  exact hn (e' ▸ ha)
theorem visit_nodup (i d : Nat) : ∀ (rest : List (S83 × ByteArray)) (E : List PEnt), (Bfs.nodes E).Nodup → (Bfs.nodes (Bfs.visit i d rest E)).Nodup
  | [], _, h => h
  | (m, y) :: rest, E, h => by
    unfold Bfs.visit
    split
    · exact visit_nodup i d rest E h
    · exact visit_nodup i d rest _ (nodup_snoc h (by assumption))
/-- no text lies deeper than its place -/
def Flat (E : List PEnt) : Prop := ∀ (j : Nat) (e : PEnt), E[j]? = some e → e.dep ≤ j
theorem visit_flat (i d : Nat) (hd : d ≤ i) : ∀ (rest : List (S83 × ByteArray)) (E : List PEnt), i < E.length → Flat E → Flat (Bfs.visit i d rest E)
  | [], _, _, h => h
  | (m, y) :: rest, E, hi, h => by
    unfold Bfs.visit
    split
    · exact visit_flat i d hd rest E hi h
    · refine visit_flat i d hd rest _ (by rw [List.length_append]; omega) (fun j e he => ?_)
      rcases Bfs.get_snoc he with he | ⟨rfl, rfl⟩
      · exact h j e he
      · show d + 1 ≤ E.length
        omega
theorem visitO_eq {n : Nat} (hn : n ≤ 10) (i d : Nat) (hd : d < 1000000) (x : ByteArray) : ∀ (l : List S83) (E : List PEnt), (∀ m ∈ l, impl_made.f x m.f0 m.f1 = some (mv x m.f0 m.f1) ∧ lineN n (mv x m.f0 m.f1)) → (∀ z ∈ Bfs.nodes E, lineN n z) → (Bfs.nodes E).Nodup →
    visitO i d x l E = some (Bfs.visit i d (l.map fun m => (m, mv x m.f0 m.f1)) E)
  | [], E, _, _, _ => rfl
  | m :: l, E, hl, hE, hnd => by
    obtain ⟨h1, h2⟩ := hl m List.mem_cons_self
    have hr := fun m' hm' => hl m' (List.mem_cons_of_mem _ hm')
    rw [visitO, h1, Option.bind_some, if_pos (by rw [h2.1]; omega), List.map_cons, Bfs.visit]
    by_cases hin : mv x m.f0 m.f1 ∈ Bfs.nodes E
    · rw [if_pos (inN_iff.2 hin), if_pos hin]
      exact visitO_eq hn i d hd x l E hr hE hnd
    · have hlen := lineN_most hn hnd hE
      rw [if_neg (fun h => hin (inN_iff.1 h)), if_neg hin, if_pos ⟨by omega, hd⟩]
      refine visitO_eq hn i d hd x l _ hr (fun z hz => ?_) (nodup_snoc hnd hin)
      rw [nodes_snoc, List.mem_append, List.mem_singleton] at hz
      rcases hz with hz | rfl
      · exact hE z hz
      · exact h2
theorem nb_line {n : Nat} {x : ByteArray} {l : List S83} (h : ∀ m ∈ l, lineN n (mv x m.f0 m.f1)) : ∀ p ∈ l.map (fun m => (m, mv x m.f0 m.f1)), lineN n p.2 := fun p hp => by
  obtain ⟨m, hm, rfl⟩ := List.mem_map.1 hp
  exact h m hm
theorem pathsO_eq {n : Nat} (hn : n ≤ 10) (M : ByteArray → Option (List S83)) (ms : ByteArray → List S83) (hM : ∀ x, lineN n x → M x = some (ms x) ∧ (ms x).length ≤ 1000000)
    (hm : ∀ x, lineN n x → ∀ m ∈ ms x, impl_made.f x m.f0 m.f1 = some (mv x m.f0 m.f1) ∧ lineN n (mv x m.f0 m.f1)) : ∀ (k i : Nat) (E : List PEnt), (∀ z ∈ Bfs.nodes E, lineN n z) → (Bfs.nodes E).Nodup → Flat E → pathsO M k i E = Bfs.bfs (nbM ms) k i E
  | 0, _, _, _, _, _ => rfl
  | k + 1, i, E, hE, hnd, hf => by
    rw [pathsO, Bfs.bfs]
    cases he : E[i]? with
    | none => rfl
    | some e =>
      simp only
      have hle := hE e.node (Bfs.mem_nodes.2 ⟨i, e, he, rfl⟩)
      have hi := Bfs.get_lt he
      have hd := hf i e he
      have hlen := lineN_most hn hnd hE
      obtain ⟨h1, h2⟩ := hM e.node hle
      rw [h1, Option.bind_some, if_pos h2, visitO_eq hn i e.dep (by omega) e.node (ms e.node) E (hm e.node hle) hE hnd, Option.bind_some]
      exact pathsO_eq hn M ms hM hm k (i + 1) _ (Bfs.visit_all i e.dep _ E hE (nb_line fun m hm' => (hm e.node hle m hm').2)) (visit_nodup i e.dep _ E hnd) (visit_flat i e.dep hd _ E hi hf)
theorem mv_all' {a : ByteArray} (h : a.data.toList.all sgn = true) (f t : Int) (f0 : 0 ≤ f) (f1 : f < (a.size : Int)) : (mv a f t).data.toList.all sgn = true := by
  have hf : f.toNat < a.data.toList.length := by rw [data_length]; omega
  unfold mv
  rw [List.all_eq_true] at h ⊢
  intro x hx
  have hx2 : x ∈ (a.data.toList.set t.toNat (a.data.toList.getD f.toNat 0)).set f.toNat 46 := by simpa using hx
  rcases List.mem_or_eq_of_mem_set hx2 with hx3 | rfl
  · rcases List.mem_or_eq_of_mem_set hx3 with hx4 | rfl
    · exact h x hx4
    · rw [List.getD_eq_getElem?_getD, List.getElem?_eq_getElem hf]
      exact h _ (List.getElem_mem hf)
  · rfl
end Go.Proofs.YtjgijaocinpkhaaDoor.XU

namespace Go.Proofs.YtjgijaocinpkhaaDoor.XU
set_option linter.unusedVariables false
set_option linter.unusedSimpArgs false
open Go Go.RowKit Go.Proofs.YtjgijaocinpkhaaDoorW.PrintWords Go.Proofs.YtjgijaocinpkhaaDoorB Go.Proofs.YtjgijaocinpkhaaDoor.Pm Go.Proofs.YtjgijaocinpkhaaDoor.Srts

theorem bmoves_line {n : Nat} (hn : n ≤ 10) {o b l : Bool} {x : ByteArray} (h : lineN n x) {m : S83} (hm : m ∈ bmoves x o b l) : impl_made.f x m.f0 m.f1 = some (mv x m.f0 m.f1) ∧ spec_liMake.f x m.f0 m.f1 = some (mv x m.f0 m.f1) ∧ lineN n (mv x m.f0 m.f1) := by
  obtain ⟨f, t⟩ := m
  have hs : x.size = n := h.1
  obtain ⟨f0, f1, t0, t1, ne⟩ := bcan_in (by omega) ((bmoves_mem x (by omega) o b l f t).1 hm)
  exact ⟨impl_made_eq x (by omega) f t f0 f1 t0 t1 ne, liMake_eq x (by omega) f t f0 f1 t0 t1 ne, by rw [← hs]; exact ⟨mv_size x f t, mv_all' h.2 f t f0 f1⟩⟩
end Go.Proofs.YtjgijaocinpkhaaDoor.XU

namespace Go.Proofs.YtjgijaocinpkhaaDoor.XU
set_option linter.unusedVariables false
set_option linter.unusedSimpArgs false
open Go Go.RowKit Go.Proofs.YtjgijaocinpkhaaDoorW.PrintWords Go.Proofs.YtjgijaocinpkhaaDoorB Go.Proofs.YtjgijaocinpkhaaDoor.Pm Go.Proofs.YtjgijaocinpkhaaDoor.Srts

theorem visitS_eq {n : Nat} (hn : n ≤ 10) (i d : Nat) (hd : d < 1000000) (x : ByteArray) : ∀ (l : List S83) (E : List PEnt), (∀ m ∈ l, spec_liMake.f x m.f0 m.f1 = some (mv x m.f0 m.f1) ∧ lineN n (mv x m.f0 m.f1)) → (∀ z ∈ Bfs.nodes E, lineN n z) → (Bfs.nodes E).Nodup →
    visitS i d x l E = some (Bfs.visit i d (l.map fun m => (m, mv x m.f0 m.f1)) E)
  | [], E, _, _, _ => rfl
  | m :: l, E, hl, hE, hnd => by
    obtain ⟨h1, h2⟩ := hl m List.mem_cons_self
    have hr := fun m' hm' => hl m' (List.mem_cons_of_mem _ hm')
    rw [visitS, h1, Option.bind_some, List.map_cons, Bfs.visit]
    by_cases hin : mv x m.f0 m.f1 ∈ Bfs.nodes E
    · rw [if_pos (inN_iff.2 hin), if_pos hin]
      exact visitS_eq hn i d hd x l E hr hE hnd
    · have hlen := lineN_most hn hnd hE
      rw [if_neg (fun h => hin (inN_iff.1 h)), if_neg hin, if_pos ⟨by omega, hd⟩]
      refine visitS_eq hn i d hd x l _ hr (fun z hz => ?_) (nodup_snoc hnd hin)
      rw [nodes_snoc, List.mem_append, List.mem_singleton] at hz
      rcases hz with hz | rfl
      · exact hE z hz
      · exact h2
theorem reachS_eq {n : Nat} (hn : n ≤ 10) (M : ByteArray → Option (List S83)) (ms : ByteArray → List S83) (hM : ∀ x, lineN n x → M x = some (ms x) ∧ (ms x).length ≤ 1000000)
    (hm : ∀ x, lineN n x → ∀ m ∈ ms x, spec_liMake.f x m.f0 m.f1 = some (mv x m.f0 m.f1) ∧ lineN n (mv x m.f0 m.f1)) : ∀ (k i : Nat) (E : List PEnt), (∀ z ∈ Bfs.nodes E, lineN n z) → (Bfs.nodes E).Nodup → Flat E → reachS M k i E = Bfs.bfs (nbM ms) k i E
  | 0, _, _, _, _, _ => rfl
  | k + 1, i, E, hE, hnd, hf => by
    rw [reachS, Bfs.bfs]
    cases he : E[i]? with
    | none => rfl
    | some e =>
      simp only
      have hle := hE e.node (Bfs.mem_nodes.2 ⟨i, e, he, rfl⟩)
      have hi := Bfs.get_lt he
      have hd := hf i e he
      have hlen := lineN_most hn hnd hE
      obtain ⟨h1, h2⟩ := hM e.node hle
      rw [h1, Option.bind_some, if_pos h2, visitS_eq hn i e.dep (by omega) e.node (ms e.node) E (hm e.node hle) hE hnd, Option.bind_some]
      exact reachS_eq hn M ms hM hm k (i + 1) _ (Bfs.visit_all i e.dep _ E hE (nb_line fun m hm' => (hm e.node hle m hm').2)) (visit_nodup i e.dep _ E hnd) (visit_flat i e.dep hd _ E hi hf)
/-- the search, for the program and for the reference -/
theorem byRule_found {n : Nat} (h1 : 1 ≤ n) (hn : n ≤ 10) (o b l : Bool) {a : ByteArray} (ha : lineN n a) : ∃ E : List PEnt, byRuleO 100000 a o b l = some E ∧ reachS (fun s => spec_ruMoves.f 3000 s o b l) 100000 0 [⟨a, -1, ⟨0, 0⟩, 0⟩] = some E ∧
    Bfs.Found (nbM fun x => bmoves x o b l) ⟨a, -1, ⟨0, 0⟩, 0⟩ E ∧ (∀ x ∈ Bfs.nodes E, lineN n x) ∧ E.length ≤ 59049 := by
  have hs : a.size = n := ha.1
  obtain ⟨E, e1, e2, e3, e4⟩ := Bfs.bfs_some (nb := nbM fun x => bmoves x o b l) (P := lineN n) (U := allN n) (r := (⟨a, -1, ⟨0, 0⟩, 0⟩ : PEnt))
    (fun x hx p hp => nb_line (l := bmoves x o b l) (fun m hm => (bmoves_line hn hx hm).2.2) p hp) (fun x hx => allN_mem hx) ha 100000 (by
      rw [allN_length]
      have : 3 ^ n ≤ 3 ^ 10 := Nat.pow_le_pow_right (by decide) hn
      omega)
  have hE : ∀ z ∈ Bfs.nodes [(⟨a, -1, ⟨0, 0⟩, 0⟩ : PEnt)], lineN n z := fun z hz => by
    simp [Bfs.nodes] at hz
    subst hz
    exact ha
  have hN : (Bfs.nodes [(⟨a, -1, ⟨0, 0⟩, 0⟩ : PEnt)]).Nodup := by simp [Bfs.nodes]
  have hF : Flat [(⟨a, -1, ⟨0, 0⟩, 0⟩ : PEnt)] := fun j e he => by
    cases j with
    | zero => cases he; exact Nat.le_refl _
    | succ j => simp at he
  refine ⟨E, ?_, ?_, e2, e3, lineN_most hn e2.nodup e3⟩
  · unfold byRuleO
    rw [if_pos (by omega), pathsO_eq hn _ (fun x => bmoves x o b l) (fun x hx => ⟨movesBy_eq x (by rw [hx.1]; exact h1) (by rw [hx.1]; exact hn) hx.2 o b l 2000 (by omega), by have := bmoves_length x o b l; omega⟩) (fun x hx m hm => ⟨(bmoves_line hn hx hm).1, (bmoves_line hn hx hm).2.2⟩) 100000 0 _ hE hN hF]
    exact e1
  · rw [reachS_eq hn _ (fun x => bmoves x o b l) (fun x hx => ⟨ruMoves_eq x (by rw [hx.1]; exact h1) (by rw [hx.1]; exact hn) hx.2 o b l 3000 (by omega), by have := bmoves_length x o b l; omega⟩) (fun x hx m hm => ⟨(bmoves_line hn hx hm).2.1, (bmoves_line hn hx hm).2.2⟩) 100000 0 _ hE hN hF]
    exact e1
end Go.Proofs.YtjgijaocinpkhaaDoor.XU

namespace Go.Proofs.YtjgijaocinpkhaaDoor.XU
set_option linter.unusedVariables false
set_option linter.unusedSimpArgs false
open Go Go.RowKit Go.Proofs.YtjgijaocinpkhaaDoorW.PrintWords Go.Proofs.YtjgijaocinpkhaaDoorB Go.Proofs.YtjgijaocinpkhaaDoor.Pm Go.Proofs.YtjgijaocinpkhaaDoor.Srts Go.Proofs.YtjgijaocinpkhaaDoor.Sorts

theorem sorted_perm (l : List ByteArray) : (sorted l).Perm l := by
  have h := (List.mergeSort_perm (Go.Proofs.YtjgijaocinpkhaaDoor.Sorts.bytes l) fun x y => decide (x ≤ y)).map (fun l : List UInt8 => (⟨l.toArray⟩ : ByteArray))
  have e : (Go.Proofs.YtjgijaocinpkhaaDoor.Sorts.bytes l).map (fun l : List UInt8 => (⟨l.toArray⟩ : ByteArray)) = l := texts_bytes l
  rw [e] at h
  exact h
theorem sorted_length (l : List ByteArray) : (sorted l).length = l.length := (sorted_perm l).length_eq
theorem sorted_srt {l : List ByteArray} (h : l.Nodup) : Srt (sorted l) := by
  have h1 := sorted_le l
  have h2 : (sorted l).Nodup := (sorted_perm l).nodup_iff.2 h
  exact (h1.and h2).imp fun h => leB_lt h.1 h.2
theorem rdS_at {l : List ByteArray} {i : Nat} (h : i < l.length) : l[i]? = some (rdOf ByteArray.empty l (i : Int)) := by
  unfold rdOf
  rw [Int.toNat_natCast, List.getD_eq_getElem?_getD, List.getElem?_eq_getElem h]
  rfl
end Go.Proofs.YtjgijaocinpkhaaDoor.XU

namespace Go.Proofs.YtjgijaocinpkhaaDoor.XU
set_option linter.unusedVariables false
set_option linter.unusedSimpArgs false
open Go Go.RowKit Go.Proofs.YtjgijaocinpkhaaDoorW.PrintWords Go.Proofs.YtjgijaocinpkhaaDoorB Go.Proofs.YtjgijaocinpkhaaDoor.Pm Go.Proofs.YtjgijaocinpkhaaDoor.Srts

theorem lsB_asymm {x y : ByteArray} (h : lsB x y = true) : lsB y x = false := by
  cases h' : lsB y x with
  | false => rfl
  | true =>
    have := lsB_trans h h'
    rw [lsB_irrefl] at this
    cases this
/-- one is as good as another, or better -/
def Geq (E : List PEnt) (m y : ByteArray) : Prop := depF E y < depF E m ∨ (depF E y = depF E m ∧ lsB y m = false)
theorem Geq.refl (E : List PEnt) (m : ByteArray) : Geq E m m := .inr ⟨rfl, lsB_irrefl m⟩
theorem Geq.uniq {E : List PEnt} {m m' : ByteArray} (h : Geq E m m') (h' : Geq E m' m) : m = m' := by
  rcases h with h | ⟨h1, h2⟩
  · rcases h' with h' | ⟨h3, _⟩ <;> omega
  · rcases h' with h' | ⟨_, h4⟩
    · omega
    · by_cases e : m = m'
      · exact e
      · have := lsB_total h2 (fun e' => e e'.symm)
        rw [h4] at this
        cases this
theorem depF_at {E : List PEnt} (hn : (Bfs.nodes E).Nodup) {j : Nat} {e : PEnt} (h : E[j]? = some e) : depF E e.node = (e.dep : Int) := by
  have hm : e.node ∈ Bfs.nodes E := Bfs.mem_nodes.2 ⟨j, e, h, rfl⟩
  have h1 := ixF_at hm
  have h2 : (Bfs.nodes E)[j]? = some e.node := by unfold Bfs.nodes; rw [List.getElem?_map, h]; rfl
  have hj := (List.getElem?_eq_some_iff.1 h1).1
  have e1 : ixF e.node (Bfs.nodes E) = j := (List.getElem?_inj hj hn).1 (by rw [h1, h2])
  unfold depF rdOf
  rw [e1, Int.toNat_natCast, List.getD_eq_getElem?_getD, List.getElem?_map, h]
  rfl
theorem minP_best {E : List PEnt} (hs : ∀ x ∈ Bfs.nodes E, x.size ≤ 1000) : ∀ (ls P : List ByteArray) (m : ByteArray), (∀ x ∈ P, ∀ y ∈ ls, lsB x y = true) → ls.Pairwise (fun a b => lsB a b = true) → (∀ x ∈ ls, x ∈ Bfs.nodes E) → m ∈ P → m ∈ Bfs.nodes E → (∀ y ∈ P, Geq E m y) →
    ∃ r, minP (farC E) ls m = some r ∧ r ∈ Bfs.nodes E ∧ (∀ y, y ∈ P ∨ y ∈ ls → Geq E r y)
  | [], P, m, _, _, _, _, hm, hg => ⟨m, rfl, hm, fun y hy => by
    rcases hy with hy | hy
    · exact hg y hy
    · cases hy⟩
  | x :: ls, P, m, h1, h2, h3, hmP, hm, hg => by
    have hx := h3 x List.mem_cons_self
    have hc : farC E x m = some (cmpI (depF E m) (depF E x)) := by
      unfold farC
      rw [if_pos ⟨inN_iff.2 hx, inN_iff.2 hm, hs x hx, hs m hm⟩]
    obtain ⟨p1, p2⟩ := List.pairwise_cons.1 h2
    have q1 : ∀ m' : ByteArray, m' ∈ P ++ [x] → m' ∈ Bfs.nodes E → (∀ y ∈ P ++ [x], Geq E m' y) → ∃ r, minP (farC E) ls m' = some r ∧ r ∈ Bfs.nodes E ∧ (∀ y, y ∈ P ∨ y ∈ x :: ls → Geq E r y) := fun m' g1 g2 g3 => by
      obtain ⟨r, r1, r2, r3⟩ := minP_best hs ls (P ++ [x]) m' (fun z hz y hy => by
        rcases List.mem_append.1 hz with hz | hz
        · exact h1 z hz y (List.mem_cons_of_mem _ hy)
        · rw [List.mem_singleton] at hz
          subst hz
          exact p1 y hy) p2 (fun y hy => h3 y (List.mem_cons_of_mem _ hy)) g1 g2 g3
      refine ⟨r, r1, r2, fun y hy => r3 y ?_⟩
      rcases hy with hy | hy
      · exact .inl (List.mem_append_left _ hy)
      · rcases List.mem_cons.1 hy with rfl | hy
        · exact .inl (List.mem_append_right _ (List.mem_singleton.2 rfl))
        · exact .inr hy
    rw [minP, hc, Option.bind_some]
    by_cases hlt : depF E m < depF E x
    · rw [show cmpI (depF E m) (depF E x) = -1 from if_pos hlt, if_pos (by decide)]
      refine q1 x (List.mem_append_right _ (List.mem_singleton.2 rfl)) hx (fun y hy => ?_)
      rcases List.mem_append.1 hy with hy | hy
      · rcases hg y hy with g | ⟨g, _⟩
        · exact .inl (by omega)
        · exact .inl (by omega)
      · rw [List.mem_singleton] at hy
        subst hy
        exact Geq.refl E y
    · rw [if_neg (by unfold cmpI; rw [if_neg hlt]; split <;> decide)]
      refine q1 m (List.mem_append_left _ hmP) hm (fun y hy => ?_)
      rcases List.mem_append.1 hy with hy | hy
      · exact hg y hy
      · rw [List.mem_singleton] at hy
        subst hy
        by_cases he : depF E y = depF E m
        · exact .inr ⟨he, lsB_asymm (h1 m hmP y List.mem_cons_self)⟩
        · exact .inl (by omega)
/-- what is as good as all that is found, or better -/
def Best (E : List PEnt) (r : ByteArray) : Prop := r ∈ Bfs.nodes E ∧ ∀ y ∈ Bfs.nodes E, Geq E r y
theorem farO_best {E : List PEnt} (hs : ∀ x ∈ Bfs.nodes E, x.size ≤ 1000) (hn : (Bfs.nodes E).Nodup) (hl : E.length ≤ 1000000) (h0 : 0 < E.length) : ∃ r, farO E = some (r, depF E r, true) ∧ Best E r := by
  have hlE : (Bfs.nodes E).length = E.length := List.length_map _
  have hlen := sorted_length (Bfs.nodes E)
  have hsrt := sorted_srt hn
  have hmem : ∀ x, x ∈ Go.Proofs.YtjgijaocinpkhaaDoor.Sorts.sorted (Bfs.nodes E) ↔ x ∈ Bfs.nodes E := fun x => Go.Proofs.YtjgijaocinpkhaaDoor.Sorts.mem_sorted
  unfold farO
  generalize Go.Proofs.YtjgijaocinpkhaaDoor.Sorts.sorted (Bfs.nodes E) = S at *
  cases S with
  | nil => simp at hlen; omega
  | cons x0 ls =>
    rw [List.length_cons] at hlen
    obtain ⟨p1, p2⟩ := List.pairwise_cons.1 hsrt
    have hx0 := (hmem x0).1 List.mem_cons_self
    obtain ⟨r, r1, r2, r3⟩ := minP_best hs ls [x0] x0 (fun x hx y hy => by rw [List.mem_singleton] at hx; subst hx; exact p1 y hy) p2 (fun x hx => (hmem x).1 (List.mem_cons_of_mem _ hx)) (List.mem_singleton.2 rfl) hx0 (fun y hy => by rw [List.mem_singleton] at hy; subst hy; exact Geq.refl E y)
    refine ⟨r, ?_, r2, fun y hy => r3 y ?_⟩
    · simp only
      rw [r1, Option.bind_some, if_pos ⟨by omega, inN_iff.2 r2, hs r r2⟩]
    · rcases List.mem_cons.1 ((hmem y).2 hy) with rfl | h
      · exact .inl (List.mem_singleton.2 rfl)
      · exact .inr h
theorem far_l0 {E : List PEnt} (hn : (Bfs.nodes E).Nodup) (hl : E.length ≤ 1000000) : ∀ (d i k : Nat) (m : ByteArray), i + d = E.length → d < k → m ∈ Bfs.nodes E → (∀ j e, j < i → E[j]? = some e → Geq E m e.node) →
    ∃ r, spec_FarthestByRule.l0 k m (depF E m) (Bfs.nodes E) ((Bfs.nodes E).length : Int) (i : Int) (Bfs.nodes E) (E.map fun (e : PEnt) => (e.dep : Int)) = some (r, depF E r, true) ∧ Best E r := by
  intro d
  have hlE : (Bfs.nodes E).length = E.length := List.length_map _
  induction d with
  | zero =>
    intro i k m hi hk hm hg
    obtain ⟨k, rfl⟩ : ∃ q, k = q + 1 := ⟨k - 1, by omega⟩
    refine ⟨m, ?_, hm, fun y hy => ?_⟩
    · rw [spec_FarthestByRule.l0, if_neg (by omega)]
    · obtain ⟨j, e, hj, rfl⟩ := Bfs.mem_nodes.1 hy
      exact hg j e (by have := Bfs.get_lt hj; omega) hj
  | succ d ih =>
    intro i k m hi hk hm hg
    obtain ⟨k, rfl⟩ : ∃ q, k = q + 1 := ⟨k - 1, by omega⟩
    have hil : i < E.length := by omega
    obtain ⟨e, he⟩ : ∃ e, E[i]? = some e := ⟨_, List.getElem?_eq_getElem hil⟩
    have hen : e.node ∈ Bfs.nodes E := Bfs.mem_nodes.2 ⟨i, e, he, rfl⟩
    have hde := depF_at hn he
    have hrd : rd (E.map fun (e : PEnt) => (e.dep : Int)) (i : Int) = depF E e.node := by
      rw [hde]
      unfold rd
      rw [Int.toNat_natCast, List.getD_eq_getElem?_getD, List.getElem?_map, he]
      rfl
    have step : ∀ m' : ByteArray, m' ∈ Bfs.nodes E → Geq E m' e.node → (∀ j e', j < i → E[j]? = some e' → Geq E m' e'.node) → ∀ j e', j < i + 1 → E[j]? = some e' → Geq E m' e'.node := fun m' _ g1 g2 j e' hj he' => by
      rcases Nat.lt_or_ge j i with g | g
      · exact g2 j e' g he'
      · obtain rfl : j = i := by omega
        rw [he] at he'
        cases he'
        exact g1
    rw [spec_FarthestByRule.l0, if_pos (by omega), if_pos (by omega), if_pos (by omega), if_pos (by rw [List.length_map]; omega), hrd, nodes_rd he, w64_succ (n := E.length) hil (by omega)]
    by_cases h1 : depF E e.node > depF E m
    · rw [if_pos h1]
      exact ih (i + 1) k e.node (by omega) (by omega) hen (step _ hen (Geq.refl E _) (fun j e' hj he' => by
        rcases hg j e' hj he' with g | ⟨g, _⟩
        · exact .inl (by omega)
        · exact .inl (by omega)))
    · rw [if_neg h1]
      by_cases h2 : depF E e.node = depF E m
      · rw [if_pos h2]
        by_cases h3 : Op.bytesLess (e.node).toList m.toList = true
        · rw [if_pos h3]
          exact ih (i + 1) k e.node (by omega) (by omega) hen (step _ hen (Geq.refl E _) (fun j e' hj he' => by
            rcases hg j e' hj he' with g | ⟨g, g2⟩
            · exact .inl (by omega)
            · refine .inr ⟨by omega, ?_⟩
              cases hx : lsB e'.node e.node with
              | false => rfl
              | true =>
                have := lsB_trans hx h3
                rw [g2] at this
                cases this))
        · rw [if_neg h3]
          exact ih (i + 1) k m (by omega) (by omega) hm (step _ hm (.inr ⟨h2, Bool.eq_false_iff.2 h3⟩) hg)
      · rw [if_neg h2]
        exact ih (i + 1) k m (by omega) (by omega) hm (step _ hm (.inl (by omega)) hg)
end Go.Proofs.YtjgijaocinpkhaaDoor.XU
