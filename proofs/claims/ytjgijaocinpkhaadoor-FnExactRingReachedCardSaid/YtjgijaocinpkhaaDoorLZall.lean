/- Plain facts on lines, moves and searches, for the statement at hand: each theorem names its conditions. -/
import Derived.Test.YtjgijaocinpkhaaDoorWWords
import Derived.Lib.SlTrimSet
import Derived.Lib.Strings
import Derived.Test.YtjgijaocinpkhaaDoorXW
import Derived.Test.YtjgijaocinpkhaaDoorBfs
import Derived.Test.YtjgijaocinpkhaaDoorPm
import Derived.Test.YtjgijaocinpkhaaDoorSrts
import Derived.Test.YtjgijaocinpkhaaDoorSortf
import Derived.Test.YtjgijaocinpkhaaDoorXZ0
import Derived.Test.YtjgijaocinpkhaaDoorXZ1
import Derived.Test.YtjgijaocinpkhaaDoorXZ2
import Derived.Test.YtjgijaocinpkhaaDoorXZ3
import Derived.Test.YtjgijaocinpkhaaDoorXZ4
import Derived.Test.YtjgijaocinpkhaaDoorXZ5
import Derived.Test.YtjgijaocinpkhaaDoorXZ6
namespace Go.Proofs.YtjgijaocinpkhaaDoorB
set_option linter.unusedVariables false
set_option linter.unusedSimpArgs false
open Go Go.RowKit Go.Proofs.YtjgijaocinpkhaaDoorW.PrintWords

theorem w64 {x : Int} (h0 : -9223372036854775808 ≤ x) (h1 : x ≤ 9223372036854775807) : wrap64 x = x := by
  unfold wrap64
  omega
theorem w64_succ {i n : Nat} (h : i < n) (hn : n ≤ 140737488351232) : wrap64 ((i : Int) + 1) = ((i + 1 : Nat) : Int) := by
  unfold wrap64
  omega
theorem bt_eq (a : ByteArray) (i : Nat) (h : i < a.size) : ∃ c : UInt8, a.data.toList.drop i = c :: a.data.toList.drop (i + 1) ∧ bt a (i : Int) = (c.toNat : Int) := by
  have hl : i < a.data.toList.length := by rw [data_length]; exact h
  refine ⟨a.data.toList[i], List.drop_eq_getElem_cons hl, ?_⟩
  unfold bt
  rw [dif_pos (show (i : Int).toNat < a.size by rw [Int.toNat_natCast]; exact h)]
  rfl
theorem byte_is (c : UInt8) (n : Nat) (hn : n < 256) : ((c.toNat : Int) = (n : Int)) ↔ c = UInt8.ofNat n := by
  constructor
  · intro h
    have h2 : c.toNat = n := by omega
    rw [← h2]
    simp
  · rintro rfl
    rw [UInt8.toNat_ofNat']
    omega
theorem is84 (c : UInt8) : ((c.toNat : Int) = 84) ↔ c = 84 := byte_is c 84 (by decide)
theorem is70 (c : UInt8) : ((c.toNat : Int) = 70) ↔ c = 70 := byte_is c 70 (by decide)
theorem is46 (c : UInt8) : ((c.toNat : Int) = 46) ↔ c = 46 := byte_is c 46 (by decide)
theorem is47 (c : UInt8) : ((c.toNat : Int) = 47) ↔ c = 47 := byte_is c 47 (by decide)
theorem byte_inj {c d : UInt8} : ((c.toNat : Int) = (d.toNat : Int)) ↔ c = d := by
  constructor
  · intro h
    exact UInt8.toNat_inj.1 (by omega)
  · rintro rfl
    rfl
/-- The signs of lines, and of words. -/
def sgn (c : UInt8) : Bool := c == 84 || c == 70 || c == 46
def tf (c : UInt8) : Bool := c == 84 || c == 70
theorem dropWhile_head {p : UInt8 → Bool} : ∀ (l : List UInt8) {c : UInt8} {t : List UInt8}, l.dropWhile p = c :: t → p c = false
  | [], _, _, h => by simp at h
  | x :: l, c, t, h => by
    rw [List.dropWhile_cons] at h
    split at h
    · exact dropWhile_head l h
    · rename_i hx
      cases h
      simpa using hx
theorem dropWhile_nil {p : UInt8 → Bool} : ∀ {l : List UInt8}, l.dropWhile p = [] ↔ ∀ x, x ∈ l → p x = true
  | [] => by simp
  | c :: l => by
    rw [List.dropWhile_cons]
    have ih := dropWhile_nil (p := p) (l := l)
    by_cases h : p c = true
    · rw [if_pos h, ih]
      simp [h]
    · rw [if_neg h]
      simp [h]
theorem trim_nil (l cs : List UInt8) : (Lib.trimS l cs = []) ↔ (l.all (cs.contains ·) = true) := by
  unfold Lib.trimS Lib.trimLeftS Lib.trimRightS
  rw [dropWhile_nil, List.all_eq_true]
  constructor
  · intro h
    cases hd : l.reverse.dropWhile (cs.contains ·) with
    | nil =>
      rw [dropWhile_nil] at hd
      exact fun x hx => hd x (List.mem_reverse.2 hx)
    | cons c t =>
      have h1 := h c (by rw [hd]; simp)
      rw [dropWhile_head _ hd] at h1
      cases h1
  · intro h x hx
    rw [List.mem_reverse] at hx
    exact h x (List.mem_reverse.1 ((List.dropWhile_sublist _).subset hx))
theorem trim_sgn (l : List UInt8) : ((⟨(Lib.trimS l [46, 70, 84]).toArray⟩ : ByteArray).toList == ([] : List UInt8)) = l.all sgn := by
  rw [Lib.toList_data, Bool.eq_iff_iff, beq_iff_eq]
  show Lib.trimS l [46, 70, 84] = [] ↔ _
  rw [trim_nil]
  have e : ∀ c : UInt8, ([46, 70, 84] : List UInt8).contains c = sgn c := by
    intro c
    unfold sgn
    by_cases h1 : c = 46
    · subst h1; decide
    by_cases h2 : c = 70
    · subst h2; decide
    by_cases h3 : c = 84
    · subst h3; decide
    simp [h1, h2, h3]
  simp only [e]
theorem trim_tf (l : List UInt8) : ((⟨(Lib.trimS l [84, 70]).toArray⟩ : ByteArray).toList == ([] : List UInt8)) = l.all tf := by
  rw [Lib.toList_data, Bool.eq_iff_iff, beq_iff_eq]
  show Lib.trimS l [84, 70] = [] ↔ _
  rw [trim_nil]
  have e : ∀ c : UInt8, ([84, 70] : List UInt8).contains c = tf c := by
    intro c
    unfold tf
    by_cases h2 : c = 70
    · subst h2; decide
    by_cases h3 : c = 84
    · subst h3; decide
    simp [h2, h3]
  simp only [e]
def isLine (m : Nat) (a : ByteArray) : Bool := decide (1 ≤ a.size) && (decide (a.size ≤ m) && a.data.toList.all sgn)
def isWord (a : ByteArray) : Bool := decide (a.size ≤ 40) && a.data.toList.all tf
def isRing (a : ByteArray) : Bool := decide (3 ≤ a.size) && isLine 9 a
theorem isLine_size {m : Nat} {a : ByteArray} (h : isLine m a = true) : 1 ≤ a.size ∧ a.size ≤ m ∧ a.data.toList.all sgn = true := by
  unfold isLine at h
  simp only [Bool.and_eq_true, decide_eq_true_eq] at h
  exact h
theorem less_not : ∀ (x y : List UInt8), Op.bytesLess x y = true → Op.bytesLess y x = false ∧ x ≠ y
  | x, [], h => by cases x <;> simp [Op.bytesLess] at h
  | [], _ :: _, _ => ⟨rfl, by simp⟩
  | a :: x, b :: y, h => by
    simp only [Op.bytesLess, Bool.or_eq_true, Bool.and_eq_true, decide_eq_true_eq, beq_iff_eq] at h
    rcases h with h | ⟨rfl, h⟩
    · refine ⟨?_, fun e => ?_⟩
      · simp only [Op.bytesLess, Bool.or_eq_false_iff, Bool.and_eq_false_iff, decide_eq_false_iff_not, beq_eq_false_iff_ne]
        have h2 := UInt8.lt_iff_toNat_lt.1 h
        exact ⟨fun h3 => by have := UInt8.lt_iff_toNat_lt.1 h3; omega, .inl (fun e => by subst e; omega)⟩
      · cases e
        have h2 := UInt8.lt_iff_toNat_lt.1 h
        omega
    · obtain ⟨h1, h2⟩ := less_not x y h
      refine ⟨?_, fun e => by cases e; exact h2 rfl⟩
      simp only [Op.bytesLess, h1, Bool.and_false, Bool.or_false, decide_eq_false_iff_not]
      exact fun h3 => by have := UInt8.lt_iff_toNat_lt.1 h3; omega
theorem less_total : ∀ (x y : List UInt8), Op.bytesLess x y = false → Op.bytesLess y x = true ∨ x = y
  | [], [], _ => .inr rfl
  | _ :: _, [], _ => .inl rfl
  | [], _ :: _, h => by simp [Op.bytesLess] at h
  | a :: x, b :: y, h => by
    simp only [Op.bytesLess, Bool.or_eq_false_iff, Bool.and_eq_false_iff, decide_eq_false_iff_not, beq_eq_false_iff_ne] at h
    obtain ⟨h1, h2⟩ := h
    by_cases e : a = b
    · subst e
      rcases h2 with h2 | h2
      · exact absurd rfl h2
      · rcases less_total x y h2 with h3 | h3
        · exact .inl (by simp [Op.bytesLess, h3])
        · exact .inr (by rw [h3])
    · refine .inl ?_
      have h3 : b < a := by
        rw [UInt8.lt_iff_toNat_lt] at h1 ⊢
        have h4 : a.toNat ≠ b.toNat := fun h5 => e (UInt8.toNat_inj.1 h5)
        omega
      simp [Op.bytesLess, h3]
/-- A law that holds two results of two parts against each other. -/
theorem law_two {α : Type} [DecidableEq α] (x y : Option (α × Bool)) (r : α × Bool) (hx : x = some r) (hy : y = some r) :
    (x.bind fun p => (y.bind fun q => (if q.1 = p.1 then (if (q.2 != p.2) = true then (some false) else (some true)) else (some false)))) = some true := by
  subst hx; subst hy; simp
theorem law_str (x y : Option (ByteArray × Bool)) (r : ByteArray × Bool) (hx : x = some r) (hy : y = some r) :
    (x.bind fun p => (y.bind fun q => (if q.1.toList = p.1.toList then (if (q.2 != p.2) = true then (some false) else (some true)) else (some false)))) = some true := by
  subst hx; subst hy; simp
theorem law_one (x y : Option Bool) (r : Bool) (hx : x = some r) (hy : y = some r) :
    (x.bind fun p => (y.bind fun q => (if (q != p) = true then (some false) else (some true)))) = some true := by
  subst hx; subst hy; simp
end Go.Proofs.YtjgijaocinpkhaaDoorB

namespace Go.Proofs.YtjgijaocinpkhaaDoor.XZ
set_option linter.unusedVariables false
set_option linter.unusedSimpArgs false
open Go Go.RowKit Go.Proofs.YtjgijaocinpkhaaDoorW.PrintWords Go.Proofs.YtjgijaocinpkhaaDoorB

theorem l1In_eq (a b c : Int) : spec_l1In.f a b c = some (decide (b ≤ a) && decide (a ≤ c)) := by
  unfold spec_l1In.f
  by_cases h : b ≤ a <;> simp [h]
theorem within_eq (a b c : Int) : impl_within.f a b c = some (decide (b ≤ a) && decide (a ≤ c)) := by
  unfold impl_within.f
  by_cases h : b ≤ a <;> simp [h]
end Go.Proofs.YtjgijaocinpkhaaDoor.XZ

namespace Go.Proofs.YtjgijaocinpkhaaDoor.XZ
set_option linter.unusedVariables false
set_option linter.unusedSimpArgs false
open Go Go.RowKit Go.Proofs.YtjgijaocinpkhaaDoorW.PrintWords Go.Proofs.YtjgijaocinpkhaaDoorB

theorem liGood_l0 (a : ByteArray) (hs : a.size ≤ 140737488351232) : ∀ (d i k : Nat), i + d = a.size → d < k → spec_liGood.l0 k a (i : Int) = some ((a.data.toList.drop i).all sgn) := by
  intro d
  induction d with
  | zero =>
    intro i k hi hk
    obtain ⟨k, rfl⟩ : ∃ m, k = m + 1 := ⟨k - 1, by omega⟩
    simp only [spec_liGood.l0]
    rw [if_neg (by omega), List.drop_of_length_le (by rw [data_length]; omega)]
    rfl
  | succ d ih =>
    intro i k hi hk
    obtain ⟨k, rfl⟩ : ∃ m, k = m + 1 := ⟨k - 1, by omega⟩
    obtain ⟨c, hd, hb⟩ := bt_eq a i (by omega)
    simp only [spec_liGood.l0]
    rw [if_pos (by omega), if_pos (by omega), hb, w64_succ (n := a.size) (by omega) hs, ih (i + 1) k (by omega) (by omega), hd, List.all_cons]
    simp only [is84, is70, is46]
    by_cases h1 : c = 84
    · subst h1; simp [sgn]
    by_cases h2 : c = 70
    · subst h2; simp [sgn]
    by_cases h3 : c = 46
    · subst h3; simp [sgn]
    simp [h1, h2, h3, sgn]
theorem liGood_eq (a : ByteArray) (hs : a.size ≤ 140737488351232) (k : Nat) (hk : 20 ≤ k) : spec_liGood.f k a = some (isLine 12 a) := by
  unfold spec_liGood.f isLine
  rw [l1In_eq]
  simp only [Option.bind_some]
  by_cases h1 : 1 ≤ a.size
  · by_cases h2 : a.size ≤ 12
    · have h := liGood_l0 a hs a.size 0 k (by omega) (by omega)
      rw [List.drop_zero] at h
      rw [if_pos (by simp; omega)]
      simp only [h1, h2, decide_true, Bool.true_and]
      exact h
    · rw [if_neg (by simp; omega)]
      simp [h2]
  · rw [if_neg (by simp; omega)]
    simp [h1]
theorem isLineOf_eq (a : ByteArray) (m : Nat) (hs : a.size ≤ 140737488351232) : impl_isLineOf.f a (m : Int) = some (isLine m a) := by
  unfold impl_isLineOf.f isLine
  rw [within_eq]
  simp only [Option.bind_some]
  by_cases h1 : 1 ≤ a.size
  · by_cases h2 : a.size ≤ m
    · rw [if_pos (by simp; omega)]
      unfold strings_Trim.f
      rw [if_pos ⟨by omega, by decide, by decide⟩]
      simp only [Option.bind_some, h1, h2, decide_true, Bool.true_and]
      exact congrArg some (trim_sgn _)
    · rw [if_neg (by simp; omega)]
      simp [h2]
  · rw [if_neg (by simp; omega)]
    simp [h1]
end Go.Proofs.YtjgijaocinpkhaaDoor.XZ

namespace Go.Proofs.YtjgijaocinpkhaaDoor.XZ
set_option linter.unusedVariables false
set_option linter.unusedSimpArgs false
open Go Go.RowKit Go.Proofs.YtjgijaocinpkhaaDoorW.PrintWords Go.Proofs.YtjgijaocinpkhaaDoorB

theorem isRing_eq (a : ByteArray) : isRing a = (isLine 12 a && (decide (3 ≤ a.size) && decide (a.size ≤ 9))) := by
  unfold isRing isLine
  by_cases h1 : 3 ≤ a.size <;> by_cases h2 : a.size ≤ 9 <;> by_cases h3 : 1 ≤ a.size <;> by_cases h4 : a.size ≤ 12 <;> simp [h1, h2, h3, h4] <;> omega
theorem ciGood_eq (a : ByteArray) (hs : a.size ≤ 140737488351232) (k : Nat) (hk : 20 ≤ k) : spec_ciGood.f k a = some (isRing a) := by
  unfold spec_ciGood.f
  rw [liGood_eq a hs k hk, l1In_eq, isRing_eq]
  simp only [Option.bind_some]
  cases isLine 12 a
  · rfl
  · simp only [if_true, Bool.true_and]
    have e1 : decide ((3 : Int) ≤ (a.size : Int)) = decide (3 ≤ a.size) := by simp; omega
    have e2 : decide ((a.size : Int) ≤ 9) = decide (a.size ≤ 9) := by simp; omega
    rw [e1, e2]
theorem impl_IsRing_eq (a : ByteArray) (hs : a.size ≤ 140737488351232) : impl_IsRing.f a = some (isRing a) := by
  unfold impl_IsRing.f isRing
  rw [show impl_isLineOf.f a 9 = some (isLine 9 a) from isLineOf_eq a 9 hs]
  simp only [Option.bind_some]
  have e1 : decide ((a.size : Int) ≥ 3) = decide (3 ≤ a.size) := by simp; omega
  rw [e1]
  cases isLine 9 a
  · simp
  · simp
theorem isRing_size {a : ByteArray} (h : isRing a = true) : 3 ≤ a.size ∧ a.size ≤ 9 ∧ a.data.toList.all sgn = true := by
  unfold isRing at h
  simp only [Bool.and_eq_true, decide_eq_true_eq] at h
  exact ⟨h.1, (isLine_size h.2).2.1, (isLine_size h.2).2.2⟩
end Go.Proofs.YtjgijaocinpkhaaDoor.XZ

namespace Go.Proofs.YtjgijaocinpkhaaDoor.XZ
set_option linter.unusedVariables false
set_option linter.unusedSimpArgs false
open Go Go.RowKit Go.Proofs.YtjgijaocinpkhaaDoorW.PrintWords Go.Proofs.YtjgijaocinpkhaaDoorB

instance : DecidableEq S83 := fun x y => decidable_of_iff (x.f0 = y.f0 ∧ x.f1 = y.f1) (by obtain ⟨a, b⟩ := x; obtain ⟨c, d⟩ := y; simp)
/-- all moves from f to a place from j on, e places, that p lets in -/
def collect (p : Int → Bool) (f : Int) : Nat → Nat → List S83
  | 0, _ => []
  | e + 1, j => (if p (j : Int) = true then [⟨f, (j : Int)⟩] else []) ++ collect p f e (j + 1)
theorem collect_length (p : Int → Bool) (f : Int) : ∀ (e j : Nat), (collect p f e j).length ≤ e
  | 0, _ => by simp [collect]
  | e + 1, j => by
    have h := collect_length p f e (j + 1)
    rw [collect, List.length_append]
    split
    · simp; omega
    · simp; omega
theorem collect_none (p : Int → Bool) (f : Int) : ∀ (e j : Nat), (∀ t : Nat, j ≤ t → t < j + e → p (t : Int) = false) → collect p f e j = []
  | 0, _, _ => rfl
  | e + 1, j, h => by
    rw [collect, h j (by omega) (by omega), collect_none p f e (j + 1) (fun t h1 h2 => h t (by omega) (by omega))]
    rfl
theorem collect_split (p : Int → Bool) (f : Int) : ∀ (e1 e2 j : Nat), collect p f (e1 + e2) j = collect p f e1 j ++ collect p f e2 (j + e1)
  | 0, e2, j => by rw [Nat.zero_add]; rfl
  | e1 + 1, e2, j => by
    rw [show e1 + 1 + e2 = (e1 + e2) + 1 from by omega, collect, collect, collect_split p f e1 e2 (j + 1), List.append_assoc, show j + 1 + e1 = j + (e1 + 1) from by omega]
theorem collect_one (p : Int → Bool) (f : Int) (e j g : Nat) (h1 : j ≤ g) (h2 : g < j + e) (h : ∀ t : Nat, j ≤ t → t < j + e → (p (t : Int) = true ↔ t = g)) : collect p f e j = [⟨f, (g : Int)⟩] := by
  obtain ⟨a, rfl⟩ : ∃ a, g = j + a := ⟨g - j, by omega⟩
  obtain ⟨b, rfl⟩ : ∃ b, e = a + (1 + b) := ⟨e - a - 1, by omega⟩
  have no : ∀ t : Nat, j ≤ t → t < j + (a + (1 + b)) → t ≠ j + a → p (t : Int) = false := fun t x y z => by
    cases hp : p (t : Int) with
    | false => rfl
    | true => exact absurd ((h t x y).1 hp) z
  rw [collect_split, collect_split, collect_none p f a j (fun t x y => no t x (by omega) (by omega)), collect_none p f b (j + a + 1) (fun t x y => no t (by omega) (by omega) (by omega))]
  simp only [collect, (h (j + a) (by omega) (by omega)).2 rfl, if_true, List.nil_append, List.append_nil]
theorem collect_mem (p : Int → Bool) (f : Int) (m : S83) : ∀ (e j : Nat), m ∈ collect p f e j ↔ (m.f0 = f ∧ p m.f1 = true ∧ (j : Int) ≤ m.f1 ∧ m.f1 < (j : Int) + e)
  | 0, j => by simp [collect]
  | e + 1, j => by
    rw [collect, List.mem_append, collect_mem p f m e (j + 1)]
    obtain ⟨x, y⟩ := m
    simp only
    constructor
    · rintro (h | h)
      · split at h
        · rename_i hp
          simp only [List.mem_singleton, S83.mk.injEq] at h
          obtain ⟨rfl, rfl⟩ := h
          exact ⟨rfl, hp, by omega, by omega⟩
        · cases h
      · exact ⟨h.1, h.2.1, by omega, by omega⟩
    · rintro ⟨rfl, hp, h1, h2⟩
      by_cases e : y = (j : Int)
      · subst e
        rw [if_pos hp]
        exact .inl (by simp)
      · exact .inr ⟨rfl, hp, by omega, by omega⟩
/-- place after place -/
def each (g : Nat → List S83) : Nat → Nat → List S83
  | 0, _ => []
  | d + 1, i => g i ++ each g d (i + 1)
theorem each_length (g : Nat → List S83) (c : Nat) (h : ∀ i, (g i).length ≤ c) : ∀ (d i : Nat), (each g d i).length ≤ d * c
  | 0, _ => by simp [each]
  | d + 1, i => by
    have h1 := each_length g c h d (i + 1)
    have h2 := h i
    rw [each, List.length_append, Nat.add_mul]
    omega
theorem each_congr (g g' : Nat → List S83) : ∀ (d i : Nat), (∀ j, i ≤ j → j < i + d → g j = g' j) → each g d i = each g' d i
  | 0, _, _ => rfl
  | d + 1, i, h => by rw [each, each, h i (by omega) (by omega), each_congr g g' d (i + 1) (fun j h1 h2 => h j (by omega) (by omega))]
theorem each_mem (g : Nat → List S83) (m : S83) : ∀ (d i : Nat), m ∈ each g d i ↔ ∃ j, i ≤ j ∧ j < i + d ∧ m ∈ g j
  | 0, i => by simp [each]; omega
  | d + 1, i => by
    rw [each, List.mem_append, each_mem g m d (i + 1)]
    constructor
    · rintro (h | ⟨j, h1, h2, h3⟩)
      · exact ⟨i, by omega, by omega, h⟩
      · exact ⟨j, by omega, by omega, h3⟩
    · rintro ⟨j, h1, h2, h3⟩
      by_cases e : j = i
      · subst e; exact .inl h3
      · exact .inr ⟨j, by omega, by omega, h3⟩
theorem rd_drop (l : List S83) (i : Nat) (hi : i < l.length) : l.drop i = rd_T83 l (i : Int) :: l.drop (i + 1) := by
  rw [List.drop_eq_getElem_cons hi]
  unfold rd_T83
  rw [Int.toNat_natCast, List.getD_eq_getElem?_getD, List.getElem?_eq_getElem hi]
  rfl
end Go.Proofs.YtjgijaocinpkhaaDoor.XZ

namespace Go.Proofs.YtjgijaocinpkhaaDoor.XZ
set_option linter.unusedVariables false
set_option linter.unusedSimpArgs false
open Go Go.RowKit Go.Proofs.YtjgijaocinpkhaaDoorW.PrintWords Go.Proofs.YtjgijaocinpkhaaDoorB

def nx (n i : Int) : Int := if i + 1 = n then 0 else i + 1
def pv (n i : Int) : Int := if i = 0 then n - 1 else i - 1
theorem nx_in {n i : Int} (h0 : 0 ≤ i) (h1 : i < n) : 0 ≤ nx n i ∧ nx n i < n := by unfold nx; split <;> omega
theorem pv_in {n i : Int} (h0 : 0 ≤ i) (h1 : i < n) : 0 ≤ pv n i ∧ pv n i < n := by unfold pv; split <;> omega
theorem tm {x n : Int} (r q : Int) (h0 : 0 ≤ r) (h1 : r < n) (q0 : 0 ≤ q) (hx : x = r + n * q) : Int.tmod x n = r := by
  subst hx
  rw [Int.tmod_eq_emod_of_nonneg (Int.add_nonneg h0 (Int.mul_nonneg (by omega) q0)), Int.add_mul_emod_self_left, Int.emod_eq_of_lt h0 h1]
theorem tm_n1 {n i : Int} (h0 : 0 ≤ i) (h1 : i < n) : Int.tmod (i + 1) n = nx n i := by
  unfold nx
  split
  · exact tm 0 1 (by omega) (by omega) (by omega) (by omega)
  · exact tm (i + 1) 0 (by omega) (by omega) (by omega) (by omega)
theorem tm_p1 {n i : Int} (h0 : 0 ≤ i) (h1 : i < n) : Int.tmod (i + (n - 1)) n = pv n i := by
  unfold pv
  split
  · exact tm (n - 1) 0 (by omega) (by omega) (by omega) (by omega)
  · exact tm (i - 1) 1 (by omega) (by omega) (by omega) (by omega)
theorem tm_n1' {n i : Int} (h0 : 0 ≤ i) (h1 : i < n) : Int.tmod (i + 1 + n) n = nx n i := by
  unfold nx
  split
  · exact tm 0 2 (by omega) (by omega) (by omega) (by omega)
  · exact tm (i + 1) 1 (by omega) (by omega) (by omega) (by omega)
theorem tm_p1' {n i : Int} (h0 : 0 ≤ i) (h1 : i < n) : Int.tmod (i + (-1) + n) n = pv n i := by
  unfold pv
  split
  · exact tm (n - 1) 0 (by omega) (by omega) (by omega) (by omega)
  · exact tm (i - 1) 1 (by omega) (by omega) (by omega) (by omega)
theorem tm_n2 {n i : Int} (h0 : 0 ≤ i) (h1 : i < n) (hn : 3 ≤ n) : Int.tmod (i + 2 + 2 * n) n = nx n (nx n i) := by
  unfold nx
  by_cases e : i + 1 = n
  · rw [if_pos e, if_neg (by omega)]
    exact tm (0 + 1) 3 (by omega) (by omega) (by omega) (by omega)
  · rw [if_neg e]
    split
    · exact tm 0 3 (by omega) (by omega) (by omega) (by omega)
    · exact tm (i + 1 + 1) 2 (by omega) (by omega) (by omega) (by omega)
theorem tm_p2 {n i : Int} (h0 : 0 ≤ i) (h1 : i < n) (hn : 3 ≤ n) : Int.tmod (i + (-2) + 2 * n) n = pv n (pv n i) := by
  unfold pv
  by_cases e : i = 0
  · rw [if_pos e, if_neg (by omega)]
    exact tm (n - 1 - 1) 1 (by omega) (by omega) (by omega) (by omega)
  · rw [if_neg e]
    split
    · exact tm (n - 1) 1 (by omega) (by omega) (by omega) (by omega)
    · exact tm (i - 1 - 1) 2 (by omega) (by omega) (by omega) (by omega)
/-- where the stone of a place goes, if it can -/
def rgoal (a : ByteArray) (i : Int) : Option Int :=
  if bt a i = 84 then (if bt a (nx a.size i) = 46 then some (nx a.size i) else if bt a (nx a.size i) = 70 then (if bt a (nx a.size (nx a.size i)) = 46 then some (nx a.size (nx a.size i)) else none) else none)
  else if bt a i = 70 then (if bt a (pv a.size i) = 46 then some (pv a.size i) else if bt a (pv a.size i) = 84 then (if bt a (pv a.size (pv a.size i)) = 46 then some (pv a.size (pv a.size i)) else none) else none)
  else none
theorem rgoal_in {a : ByteArray} {i t : Int} (h0 : 0 ≤ i) (h1 : i < (a.size : Int)) (h : rgoal a i = some t) : 0 ≤ t ∧ t < (a.size : Int) := by
  have n1 := nx_in h0 h1
  have n2 := nx_in n1.1 n1.2
  have p1 := pv_in h0 h1
  have p2 := pv_in p1.1 p1.2
  unfold rgoal at h
  repeat' split at h
  all_goals first | (cases h; done) | (injection h with h; subst h; omega)
def rcan (a : ByteArray) (f t : Int) : Bool := decide (0 ≤ f ∧ f < (a.size : Int)) && (rgoal a f == some t)
theorem ciCan_eq (a : ByteArray) (hs3 : 3 ≤ a.size) (hs : a.size ≤ 9) (f t : Int) (k : Nat) (hk : 1 ≤ k) : spec_ciCan.f k a f t = some (rcan a f t) := by
  obtain ⟨k, rfl⟩ : ∃ m, k = m + 1 := ⟨k - 1, by omega⟩
  unfold spec_ciCan.f rcan
  have e : wrap64 ((a.size : Int) - 1) = (a.size : Int) - 1 := w64 (by omega) (by omega)
  rw [e, l1In_eq, l1In_eq]
  simp only [Option.bind_some, spec_ciCan.j0]
  by_cases hf : 0 ≤ f ∧ f ≤ (a.size : Int) - 1
  case neg =>
    rw [if_neg (by simp; omega), if_pos trivial, decide_eq_false (fun h => hf ⟨h.1, by omega⟩), Bool.false_and]
  have f1 : f < (a.size : Int) := by omega
  rw [if_pos (by simp; omega), decide_eq_true (show 0 ≤ f ∧ f < (a.size : Int) from ⟨hf.1, f1⟩), Bool.true_and]
  by_cases ht : 0 ≤ t ∧ t ≤ (a.size : Int) - 1
  case neg =>
    rw [if_neg (by simp; omega), if_pos trivial]
    have : rgoal a f ≠ some t := fun h => by
      have := rgoal_in hf.1 f1 h
      omega
    simp [this]
  have t1 : t < (a.size : Int) := by omega
  rw [if_pos (by simp; omega), if_pos ht.1, if_pos t1]
  have n1 := nx_in hf.1 f1
  have n2 := nx_in n1.1 n1.2
  have p1 := pv_in hf.1 f1
  have p2 := pv_in p1.1 p1.2
  rw [e, w64 (x := f + 1) (by omega) (by omega), w64 (x := f + ((a.size : Int) - 1)) (by omega) (by omega), tm_n1 hf.1 f1, tm_p1 hf.1 f1, w64 (x := nx a.size f + 1) (by omega) (by omega), w64 (x := pv a.size f + ((a.size : Int) - 1)) (by omega) (by omega), tm_n1 n1.1 n1.2, tm_p1 p1.1 p1.2]
  by_cases h46 : bt a t = 46
  case neg =>
    rw [if_pos (by simpa using h46)]
    have : rgoal a f ≠ some t := fun h => by
      unfold rgoal at h
      repeat' split at h
      all_goals first | (cases h; done) | (injection h with h; subst h; contradiction)
    simp [this]
  rw [show (bt a t != 46) = false from by simp [h46], if_neg (by decide), if_pos hf.1, if_pos f1]
  unfold rgoal
  by_cases c84 : bt a f = 84
  · rw [if_pos c84, if_pos c84, if_neg (by omega)]
    by_cases q1 : t = nx a.size f
    · rw [if_pos q1, ← q1, if_pos h46]
      simp
    · rw [if_neg q1, if_pos n1.1, if_pos n1.2]
      by_cases q2 : bt a (nx a.size f) = 70
      · rw [if_pos q2, if_neg (by rw [q2]; decide), if_pos q2]
        by_cases q3 : t = nx a.size (nx a.size f)
        · rw [← q3, if_pos h46]
          simp
        · split
          · rw [beq_eq_false_iff_ne.2 q3, beq_eq_false_iff_ne.2 (fun h => q3 (Option.some.inj h).symm)]
          · simp [q3]
      · rw [if_neg q2, if_neg q2]
        split
        · simp [Ne.symm q1]
        · simp
  · rw [if_neg c84, if_neg c84]
    by_cases c70 : bt a f = 70
    · rw [if_pos c70, if_pos c70, if_neg (by omega)]
      by_cases q1 : t = pv a.size f
      · rw [if_pos q1, ← q1, if_pos h46]
        simp
      · rw [if_neg q1, if_pos p1.1, if_pos p1.2]
        by_cases q2 : bt a (pv a.size f) = 84
        · rw [if_pos q2, if_neg (by rw [q2]; decide), if_pos q2]
          by_cases q3 : t = pv a.size (pv a.size f)
          · rw [← q3, if_pos h46]
            simp
          · split
            · rw [beq_eq_false_iff_ne.2 q3, beq_eq_false_iff_ne.2 (fun h => q3 (Option.some.inj h).symm)]
            · simp [q3]
        · rw [if_neg q2, if_neg q2]
          split
          · simp [Ne.symm q1]
          · simp
    · rw [if_neg c70, if_neg c70]
      simp
def rmove (a : ByteArray) (i : Nat) : List S83 := match rgoal a (i : Int) with | some t => [⟨(i : Int), t⟩] | none => []
/-- the moves on a ring -/
def rmoves (a : ByteArray) : List S83 := each (rmove a) a.size 0
theorem rmove_length (a : ByteArray) (i : Nat) : (rmove a i).length ≤ 1 := by unfold rmove; split <;> simp
theorem rmoves_length (a : ByteArray) : (rmoves a).length ≤ a.size := by
  have := each_length (rmove a) 1 (rmove_length a) a.size 0
  unfold rmoves
  omega
theorem rmoves_mem (a : ByteArray) (f t : Int) : (⟨f, t⟩ : S83) ∈ rmoves a ↔ rcan a f t = true := by
  unfold rmoves rcan
  rw [each_mem]
  simp only [Bool.and_eq_true, decide_eq_true_eq, beq_iff_eq]
  constructor
  · rintro ⟨j, _, h2, h3⟩
    unfold rmove at h3
    split at h3
    · rename_i u hu
      simp only [List.mem_singleton, S83.mk.injEq] at h3
      obtain ⟨rfl, rfl⟩ := h3
      exact ⟨by omega, hu⟩
    · cases h3
  · rintro ⟨⟨h0, h1⟩, h2⟩
    refine ⟨f.toNat, by omega, by omega, ?_⟩
    unfold rmove
    rw [Int.toNat_of_nonneg h0, h2]
    simp
theorem wr1 {n i : Int} (h0 : 0 ≤ i) (h1 : i < n) (hn : n ≤ 9) : wrap64 (wrap64 (i + 1) + n) = i + 1 + n := by unfold wrap64; omega
theorem wr2 {n i : Int} (h0 : 0 ≤ i) (h1 : i < n) (hn : n ≤ 9) : wrap64 (wrap64 (i + -1) + n) = i + -1 + n := by unfold wrap64; omega
theorem wr3 {n i : Int} (h0 : 0 ≤ i) (h1 : i < n) (hn : n ≤ 9) : wrap64 (wrap64 (i + wrap64 (2 * 1)) + wrap64 (2 * n)) = i + 2 + 2 * n := by unfold wrap64; omega
theorem wr4 {n i : Int} (h0 : 0 ≤ i) (h1 : i < n) (hn : n ≤ 9) : wrap64 (wrap64 (i + wrap64 (2 * -1)) + wrap64 (2 * n)) = i + -2 + 2 * n := by unfold wrap64; omega
theorem rmove_some {a : ByteArray} {i : Nat} {t : Int} (h : rgoal a (i : Int) = some t) : rmove a i = [⟨(i : Int), t⟩] := by unfold rmove; rw [h]
theorem rmove_none {a : ByteArray} {i : Nat} (h : rgoal a (i : Int) = none) : rmove a i = [] := by unfold rmove; rw [h]
theorem ringMoves_l0 (a : ByteArray) (hs3 : 3 ≤ a.size) (hs : a.size ≤ 9) : ∀ (d i k : Nat) (l : List S83), i + d = a.size → d < k → l.length ≤ i → impl_ringMoves.l0 k a l (a.size : Int) (a.size : Int) (i : Int) = some (l ++ each (rmove a) d i) := by
  intro d
  induction d with
  | zero =>
    intro i k l hi hk hl
    obtain ⟨k, rfl⟩ : ∃ m, k = m + 1 := ⟨k - 1, by omega⟩
    simp only [impl_ringMoves.l0]
    rw [if_neg (by omega), each, List.append_nil]
  | succ d ih =>
    intro i k l hi hk hl
    obtain ⟨k, rfl⟩ : ∃ m, k = m + 1 := ⟨k - 1, by omega⟩
    have f0 : (0 : Int) ≤ (i : Int) := by omega
    have f1 : (i : Int) < (a.size : Int) := by omega
    have n1 := nx_in f0 f1
    have n2 := nx_in n1.1 n1.2
    have p1 := pv_in f0 f1
    have p2 := pv_in p1.1 p1.2
    have skip := ih (i + 1) k l (by omega) (by omega) (by omega)
    have add := fun t : Int => ih (i + 1) k (l ++ [⟨(i : Int), t⟩]) (by omega) (by omega) (by rw [List.length_append]; simp; omega)
    simp only [impl_ringMoves.l0]
    rw [if_pos f1, if_pos f0, if_pos f1, each, w64_succ (n := a.size) (by omega) (by omega)]
    unfold impl_stepOf.f impl_other.f
    have z1 : ¬ (a.size : Int) = 0 := by omega
    have z2 : l.length < 8796093022208 := by omega
    have hn9 : (a.size : Int) ≤ 9 := by omega
    have hn3 : (3 : Int) ≤ (a.size : Int) := by omega
    have w1 := wr1 f0 f1 hn9
    have w2 := wr2 f0 f1 hn9
    have w3 := wr3 f0 f1 hn9
    have w4 := wr4 f0 f1 hn9
    by_cases c84 : bt a (i : Int) = 84
    · rw [if_pos c84]
      simp only [Option.bind_some]
      rw [if_neg z1, if_neg (by decide), w1, w3, tm_n1' f0 f1, tm_n2 f0 f1 hn3, if_pos n1.1, if_pos n1.2]
      by_cases q1 : bt a (nx a.size i) = 46
      · rw [if_pos q1, if_pos z2, add, rmove_some (t := nx a.size i) (by unfold rgoal; rw [if_pos c84, if_pos q1]), List.append_assoc]
      · rw [if_neg q1, if_pos c84]
        simp only [Option.bind_some]
        by_cases q2 : bt a (nx a.size i) = 70
        · rw [if_pos q2, if_pos n2.1, if_pos n2.2]
          by_cases q3 : bt a (nx a.size (nx a.size i)) = 46
          · rw [if_pos q3, if_pos z2, add, rmove_some (t := nx a.size (nx a.size i)) (by unfold rgoal; rw [if_pos c84, if_neg q1, if_pos q2, if_pos q3]), List.append_assoc]
          · rw [if_neg q3, skip, rmove_none (by unfold rgoal; rw [if_pos c84, if_neg q1, if_pos q2, if_neg q3]), List.nil_append]
        · rw [if_neg q2, skip, rmove_none (by unfold rgoal; rw [if_pos c84, if_neg q1, if_neg q2]), List.nil_append]
    · rw [if_neg c84]
      by_cases c70 : bt a (i : Int) = 70
      · rw [if_pos c70]
        simp only [Option.bind_some]
        rw [if_neg z1, if_neg (by decide), w2, w4, tm_p1' f0 f1, tm_p2 f0 f1 hn3, if_pos p1.1, if_pos p1.2]
        by_cases q1 : bt a (pv a.size i) = 46
        · rw [if_pos q1, if_pos z2, add, rmove_some (t := pv a.size i) (by unfold rgoal; rw [if_neg c84, if_pos c70, if_pos q1]), List.append_assoc]
        · rw [if_neg q1, if_neg c84, if_pos c70]
          simp only [Option.bind_some]
          by_cases q2 : bt a (pv a.size i) = 84
          · rw [if_pos q2, if_pos p2.1, if_pos p2.2]
            by_cases q3 : bt a (pv a.size (pv a.size i)) = 46
            · rw [if_pos q3, if_pos z2, add, rmove_some (t := pv a.size (pv a.size i)) (by unfold rgoal; rw [if_neg c84, if_pos c70, if_neg q1, if_pos q2, if_pos q3]), List.append_assoc]
            · rw [if_neg q3, skip, rmove_none (by unfold rgoal; rw [if_neg c84, if_pos c70, if_neg q1, if_pos q2, if_neg q3]), List.nil_append]
          · rw [if_neg q2, skip, rmove_none (by unfold rgoal; rw [if_neg c84, if_pos c70, if_neg q1, if_neg q2]), List.nil_append]
      · rw [if_neg c70]
        simp only [Option.bind_some]
        rw [if_neg z1, if_pos trivial, skip, rmove_none (by unfold rgoal; rw [if_neg c84, if_neg c70]), List.nil_append]
theorem impl_ringMoves_eq (a : ByteArray) (hs3 : 3 ≤ a.size) (hs : a.size ≤ 9) (k : Nat) (hk : 20 ≤ k) : impl_ringMoves.f k a = some (rmoves a) :=
  ringMoves_l0 a hs3 hs a.size 0 k [] (by omega) (by omega) (by simp)
end Go.Proofs.YtjgijaocinpkhaaDoor.XZ

namespace Go.Proofs.YtjgijaocinpkhaaDoor.XZ
set_option linter.unusedVariables false
set_option linter.unusedSimpArgs false
open Go Go.RowKit Go.Proofs.YtjgijaocinpkhaaDoorW.PrintWords Go.Proofs.YtjgijaocinpkhaaDoorB

theorem rgoal_46 {a : ByteArray} {f t : Int} (h : rgoal a f = some t) : bt a t = 46 ∧ (bt a f = 84 ∨ bt a f = 70) := by
  unfold rgoal at h
  repeat' split at h
  all_goals first | (cases h; done) | (injection h with h; subst h; first | exact ⟨by assumption, .inl (by assumption)⟩ | exact ⟨by assumption, .inr (by assumption)⟩)
theorem rcan_in {a : ByteArray} {f t : Int} (h : rcan a f t = true) : 0 ≤ f ∧ f < (a.size : Int) ∧ 0 ≤ t ∧ t < (a.size : Int) ∧ f ≠ t := by
  unfold rcan at h
  simp only [Bool.and_eq_true, decide_eq_true_eq, beq_iff_eq] at h
  obtain ⟨⟨f0, f1⟩, hg⟩ := h
  obtain ⟨t0, t1⟩ := rgoal_in f0 f1 hg
  refine ⟨f0, f1, t0, t1, fun e => ?_⟩
  subst e
  have h2 := rgoal_46 hg
  omega
end Go.Proofs.YtjgijaocinpkhaaDoor.XZ

namespace Go.Proofs.YtjgijaocinpkhaaDoor.XZ
set_option linter.unusedVariables false
set_option linter.unusedSimpArgs false
open Go Go.RowKit Go.Proofs.YtjgijaocinpkhaaDoorW.PrintWords Go.Proofs.YtjgijaocinpkhaaDoorB

theorem bt_lt {a : ByteArray} (h : a.data.toList.all sgn = true) {i : Nat} (hi : i < a.size) : bt a (i : Int) < 128 := by
  obtain ⟨c, hd, hb⟩ := bt_eq a i hi
  have hc : c ∈ a.data.toList := List.mem_of_mem_drop (by rw [hd]; exact List.mem_cons_self)
  have h2 := List.all_eq_true.1 h c hc
  unfold sgn at h2
  simp only [Bool.or_eq_true, beq_iff_eq] at h2
  rw [hb]
  rcases h2 with (rfl | rfl) | rfl <;> decide
theorem ciMoves_l1' (a : ByteArray) (hs3 : 3 ≤ a.size) (hs : a.size ≤ 9) (hl : a.data.toList.all sgn = true) (i : Nat) (R : List S83) (K M : Nat)
    (H : ∀ (l : List S83) (k : Nat), l.length + M ≤ 200 → K ≤ k → spec_ciMoves.l0 k a l ((i + 1 : Nat) : Int) a = some (l ++ R)) :
    ∀ (e j k : Nat) (l : List S83), j + e = a.size → e + K + 1 ≤ k → l.length + e + M ≤ 200 → spec_ciMoves.l1 k a l (i : Int) ((i + 1 : Nat) : Int) a (j : Int) a = some (l ++ (collect (rcan a (i : Int)) (i : Int) e j ++ R)) := by
  intro e
  induction e with
  | zero =>
    intro j k l hj hk hle
    obtain ⟨k, rfl⟩ : ∃ m, k = m + 1 := ⟨k - 1, by omega⟩
    simp only [spec_ciMoves.l1]
    rw [if_pos (by omega), if_neg (by omega), H l k (by omega) (by omega), collect, List.nil_append]
  | succ e ih =>
    intro j k l hj hk hle
    obtain ⟨k, rfl⟩ : ∃ m, k = m + 1 := ⟨k - 1, by omega⟩
    simp only [spec_ciMoves.l1]
    have w : ((j : Int) + 1) = ((j + 1 : Nat) : Int) := rfl
    have z : l.length < 8796093022208 := by omega
    have t1 := ih (j + 1) k l (by omega) (by omega) (by omega)
    have t2 := ih (j + 1) k (l ++ [⟨(i : Int), (j : Int)⟩]) (by omega) (by omega) (by rw [List.length_append, List.length_singleton]; omega)
    rw [if_pos (by omega), if_pos (by omega), if_pos (bt_lt hl (by omega)), ciCan_eq a hs3 hs _ _ k (by omega), w, collect]
    simp only [Option.bind_some]
    by_cases h : rcan a (i : Int) (j : Int) = true
    · rw [if_pos h, if_pos h, if_pos z, t2, List.append_assoc, List.append_assoc]
    · rw [if_neg h, if_neg h, t1, List.nil_append]
theorem ciMoves_l0 (a : ByteArray) (hs3 : 3 ≤ a.size) (hs : a.size ≤ 9) (hl : a.data.toList.all sgn = true) : ∀ (d i : Nat), i + d = a.size → ∀ (l : List S83) (k : Nat), l.length + d * 9 ≤ 200 → d * 11 + 1 ≤ k →
    spec_ciMoves.l0 k a l (i : Int) a = some (l ++ each (fun j => collect (rcan a (j : Int)) (j : Int) a.size 0) d i) := by
  intro d
  induction d with
  | zero =>
    intro i hi l k hle hk
    obtain ⟨k, rfl⟩ : ∃ m, k = m + 1 := ⟨k - 1, by omega⟩
    simp only [spec_ciMoves.l0]
    rw [if_pos (by omega), if_neg (by omega), each, List.append_nil]
  | succ d ih =>
    intro i hi l k hle hk
    obtain ⟨k, rfl⟩ : ∃ m, k = m + 1 := ⟨k - 1, by omega⟩
    simp only [spec_ciMoves.l0]
    have H : ∀ (l' : List S83) (k : Nat), l'.length + d * 9 ≤ 200 → d * 11 + 1 ≤ k → spec_ciMoves.l0 k a l' ((i + 1 : Nat) : Int) a = some (l' ++ each (fun j => collect (rcan a (j : Int)) (j : Int) a.size 0) d (i + 1)) := ih (i + 1) (by omega)
    have w : ((i : Int) + 1) = ((i + 1 : Nat) : Int) := rfl
    rw [if_pos (by omega), if_pos (by omega), if_pos (bt_lt hl (by omega)), w, each]
    exact ciMoves_l1' a hs3 hs hl i _ (d * 11 + 1) (d * 9) H a.size 0 k l (by omega) (by omega) (by omega)
theorem collect_ring (a : ByteArray) (i : Nat) (hi : i < a.size) : collect (rcan a (i : Int)) (i : Int) a.size 0 = rmove a i := by
  have f0 : (0 : Int) ≤ (i : Int) := by omega
  have f1 : (i : Int) < (a.size : Int) := by omega
  cases hg : rgoal a (i : Int) with
  | none =>
    rw [rmove_none hg]
    exact collect_none _ _ _ _ (fun t _ _ => by unfold rcan; rw [hg]; simp)
  | some g =>
    obtain ⟨g0, g1⟩ := rgoal_in f0 f1 hg
    obtain ⟨m, rfl⟩ : ∃ m : Nat, g = (m : Int) := ⟨g.toNat, by omega⟩
    rw [rmove_some hg]
    refine collect_one _ _ _ _ m (by omega) (by omega) (fun t _ _ => ?_)
    unfold rcan
    rw [hg, decide_eq_true (show 0 ≤ (i : Int) ∧ (i : Int) < (a.size : Int) from ⟨f0, f1⟩), Bool.true_and, beq_iff_eq, Option.some.injEq]
    omega
theorem ciMoves_eq (a : ByteArray) (hs3 : 3 ≤ a.size) (hs : a.size ≤ 9) (hl : a.data.toList.all sgn = true) (k : Nat) (hk : 150 ≤ k) : spec_ciMoves.f k a = some (rmoves a) := by
  unfold spec_ciMoves.f rmoves
  have h := ciMoves_l0 a hs3 hs hl a.size 0 (by omega) [] k (by simp; omega) (by omega)
  rw [each_congr _ (rmove a) a.size 0 (fun j _ h => collect_ring a j (by omega)), List.nil_append] at h
  exact h
end Go.Proofs.YtjgijaocinpkhaaDoor.XZ

namespace Go.Proofs.YtjgijaocinpkhaaDoor.XZ
set_option linter.unusedVariables false
set_option linter.unusedSimpArgs false
open Go Go.RowKit Go.Proofs.YtjgijaocinpkhaaDoorW.PrintWords Go.Proofs.YtjgijaocinpkhaaDoorB

theorem ba_eq {x y : ByteArray} (h : x.data.toList = y.data.toList) : x = y := by rw [← Lib.mk_data x, ← Lib.mk_data y, h]
theorem list_extract (a : ByteArray) (i j : Nat) : (a.extract i j).data.toList = (a.data.toList.drop i).take (j - i) := by
  simp
theorem list_append (x y : ByteArray) : (x ++ y).data.toList = x.data.toList ++ y.data.toList := by simp
/-- the text with the sign of one place moved to another -/
def mv (a : ByteArray) (f t : Int) : ByteArray := ⟨((a.data.toList.set t.toNat (a.data.toList.getD f.toNat 0)).set f.toNat 46).toArray⟩
theorem mv_size (a : ByteArray) (f t : Int) : (mv a f t).size = a.size := by
  unfold mv ByteArray.size
  simp
theorem liPut_eq (a : ByteArray) (hs : a.size ≤ 1000) (i : Nat) (hi : i < a.size) (c : UInt8) : spec_liPut.f a (i : Int) ⟨#[c]⟩ = some ⟨(a.data.toList.set i c).toArray⟩ := by
  unfold spec_liPut.f
  rw [w64_succ (n := a.size) hi (by omega), Int.toNat_natCast, Int.toNat_natCast]
  have s1 : (a.extract 0 i).size = i := by rw [ByteArray.size_extract]; omega
  have s2 : (⟨#[c]⟩ : ByteArray).size = 1 := rfl
  have s3 : (a.extract (i + 1) a.size).size = a.size - (i + 1) := by rw [ByteArray.size_extract]; omega
  rw [if_pos (by omega), if_pos (by omega), if_pos (by rw [s1, s2]; omega), if_pos (by omega), if_pos (by omega), if_pos (by rw [ByteArray.size_append, s1, s2, s3]; omega)]
  congr 1
  apply ba_eq
  have hl : i < a.data.toList.length := by rw [data_length]; exact hi
  rw [list_append, list_append, list_extract, list_extract, List.set_eq_take_append_cons_drop, if_pos hl, List.take_of_length_le (l := List.drop (i + 1) a.data.toList) (by rw [List.length_drop, data_length]; exact Nat.le_refl _)]
  simp
theorem extract_one (a : ByteArray) (i : Nat) (hi : i < a.size) : a.extract i (i + 1) = ⟨#[a.data.toList.getD i 0]⟩ := by
  apply ba_eq
  have hl : i < a.data.toList.length := by rw [data_length]; exact hi
  rw [list_extract, List.drop_eq_getElem_cons hl, show i + 1 - i = 1 from by omega, List.getD_eq_getElem?_getD, List.getElem?_eq_getElem hl]
  rfl
theorem liMake_eq (a : ByteArray) (hs : a.size ≤ 1000) (f t : Int) (f0 : 0 ≤ f) (f1 : f < (a.size : Int)) (t0 : 0 ≤ t) (t1 : t < (a.size : Int)) (ne : f ≠ t) : spec_liMake.f a f t = some (mv a f t) := by
  obtain ⟨i, rfl⟩ : ∃ i : Nat, f = (i : Int) := ⟨f.toNat, by omega⟩
  obtain ⟨j, rfl⟩ : ∃ j : Nat, t = (j : Int) := ⟨t.toNat, by omega⟩
  unfold spec_liMake.f mv
  rw [w64_succ (n := a.size) (by omega) (by omega), Int.toNat_natCast, Int.toNat_natCast, Int.toNat_natCast, if_pos (by omega), if_pos (by omega), if_pos (by omega), liPut_eq a hs i (by omega) 46, extract_one a i (by omega)]
  simp only [Option.bind_some]
  have e : (⟨(a.data.toList.set i 46).toArray⟩ : ByteArray).size = a.size := by unfold ByteArray.size; simp
  rw [liPut_eq _ (by omega) j (by omega)]
  simp only [Option.bind_some]
  congr 2
  rw [List.set_comm _ _ (show j ≠ i from by omega)]
theorem impl_made_eq (a : ByteArray) (hs : a.size ≤ 1000) (f t : Int) (f0 : 0 ≤ f) (f1 : f < (a.size : Int)) (t0 : 0 ≤ t) (t1 : t < (a.size : Int)) (ne : f ≠ t) : impl_made.f a f t = some (mv a f t) :=
  if_pos ⟨by omega, f0, f1, t0, t1, ne⟩
end Go.Proofs.YtjgijaocinpkhaaDoor.XZ

namespace Go.Proofs.YtjgijaocinpkhaaDoor.XZ
set_option linter.unusedVariables false
set_option linter.unusedSimpArgs false
open Go Go.RowKit Go.Proofs.YtjgijaocinpkhaaDoorW.PrintWords Go.Proofs.YtjgijaocinpkhaaDoorB Go.Proofs.YtjgijaocinpkhaaDoor.Pm Go.Proofs.YtjgijaocinpkhaaDoor.Srts

/-- lines of n signs -/
def lineN (n : Nat) (x : ByteArray) : Prop := x.size = n ∧ x.data.toList.all sgn = true
def words3 : Nat → List (List UInt8)
  | 0 => [[]]
  | n + 1 => (words3 n).flatMap fun w => [84 :: w, 70 :: w, 46 :: w]
theorem flat3_length {α β : Type} (f : α → List β) (h : ∀ x, (f x).length = 3) : ∀ l : List α, (l.flatMap f).length = 3 * l.length
  | [] => rfl
  | a :: l => by rw [List.flatMap_cons, List.length_append, h, flat3_length f h l, List.length_cons]; omega
theorem words3_length : ∀ n, (words3 n).length = 3 ^ n
  | 0 => rfl
  | n + 1 => by rw [words3, flat3_length _ (fun _ => rfl), words3_length n, Nat.pow_succ, Nat.mul_comm]
theorem mem_words3 : ∀ (n : Nat) (l : List UInt8), l.length = n → l.all sgn = true → l ∈ words3 n
  | 0, l, h, _ => by rw [List.length_eq_zero_iff.1 h]; exact List.mem_singleton.2 rfl
  | n + 1, [], h, _ => by simp at h
  | n + 1, c :: l, h, ha => by
    rw [List.all_cons, Bool.and_eq_true] at ha
    have ih := mem_words3 n l (by simpa using h) ha.2
    refine List.mem_flatMap.2 ⟨l, ih, ?_⟩
    have hc := ha.1
    unfold sgn at hc
    simp only [Bool.or_eq_true, beq_iff_eq] at hc
    rcases hc with (rfl | rfl) | rfl <;> simp
def allN (n : Nat) : List ByteArray := (words3 n).map fun l => ⟨l.toArray⟩
theorem allN_length (n : Nat) : (allN n).length = 3 ^ n := by unfold allN; rw [List.length_map, words3_length]
theorem allN_mem {n : Nat} {x : ByteArray} (h : lineN n x) : x ∈ allN n :=
  List.mem_map.2 ⟨x.data.toList, mem_words3 n _ (by rw [data_length]; exact h.1) h.2, Lib.mk_data x⟩
theorem lineN_most {n : Nat} (hn : n ≤ 10) {E : List PEnt} (hd : (Bfs.nodes E).Nodup) (hE : ∀ x ∈ Bfs.nodes E, lineN n x) : E.length ≤ 59049 := by
  have h := Bfs.nodup_le hd (fun x hx => allN_mem (hE x hx))
  rw [allN_length, show (Bfs.nodes E).length = E.length from List.length_map _] at h
  have h2 : 3 ^ n ≤ 3 ^ 10 := Nat.pow_le_pow_right (by decide) hn
  omega
/-- the neighbours of a text -/
def nbM (ms : ByteArray → List S83) (x : ByteArray) : List (S83 × ByteArray) := (ms x).map fun m => (m, mv x m.f0 m.f1)
theorem nodes_snoc (E : List PEnt) (e : PEnt) : Bfs.nodes (E ++ [e]) = Bfs.nodes E ++ [e.node] := by simp [Bfs.nodes]
theorem nodup_snoc {E : List PEnt} {e : PEnt} (h : (Bfs.nodes E).Nodup) (hn : e.node ∉ Bfs.nodes E) : (Bfs.nodes (E ++ [e])).Nodup := by
  rw [nodes_snoc]
  refine List.nodup_append.2 ⟨h, by simp, fun a ha b hb e' => ?_⟩
  rw [List.mem_singleton] at hb
  subst hb
  exact hn (e' ▸ ha)
theorem visit_nodup (i d : Nat) : ∀ (rest : List (S83 × ByteArray)) (E : List PEnt), (Bfs.nodes E).Nodup → (Bfs.nodes (Bfs.visit i d rest E)).Nodup
  | [], _, h => h
  | (m, y) :: rest, E, h => by
    unfold Bfs.visit
    split
    · exact visit_nodup i d rest E h
    · exact visit_nodup i d rest _ (nodup_snoc h (by assumption))
/-- no text lies deeper than its place -/
def Flat (E : List PEnt) : Prop := ∀ (j : Nat) (e : PEnt), E[j]? = some e → e.dep ≤ j
theorem visit_flat (i d : Nat) (hd : d ≤ i) : ∀ (rest : List (S83 × ByteArray)) (E : List PEnt), i < E.length → Flat E → Flat (Bfs.visit i d rest E)
  | [], _, _, h => h
  | (m, y) :: rest, E, hi, h => by
    unfold Bfs.visit
    split
    · exact visit_flat i d hd rest E hi h
    · refine visit_flat i d hd rest _ (by rw [List.length_append]; omega) (fun j e he => ?_)
      rcases Bfs.get_snoc he with he | ⟨rfl, rfl⟩
      · exact h j e he
      · show d + 1 ≤ E.length
        omega
theorem visitO_eq {n : Nat} (hn : n ≤ 10) (i d : Nat) (hd : d < 1000000) (x : ByteArray) : ∀ (l : List S83) (E : List PEnt), (∀ m ∈ l, impl_made.f x m.f0 m.f1 = some (mv x m.f0 m.f1) ∧ lineN n (mv x m.f0 m.f1)) → (∀ z ∈ Bfs.nodes E, lineN n z) → (Bfs.nodes E).Nodup →
    visitO i d x l E = some (Bfs.visit i d (l.map fun m => (m, mv x m.f0 m.f1)) E)
  | [], E, _, _, _ => rfl
  | m :: l, E, hl, hE, hnd => by
    obtain ⟨h1, h2⟩ := hl m List.mem_cons_self
    have hr := fun m' hm' => hl m' (List.mem_cons_of_mem _ hm')
    rw [visitO, h1, Option.bind_some, if_pos (by rw [h2.1]; omega), List.map_cons, Bfs.visit]
    by_cases hin : mv x m.f0 m.f1 ∈ Bfs.nodes E
    · rw [if_pos (inN_iff.2 hin), if_pos hin]
      exact visitO_eq hn i d hd x l E hr hE hnd
    · have hlen := lineN_most hn hnd hE
      rw [if_neg (fun h => hin (inN_iff.1 h)), if_neg hin, if_pos ⟨by omega, hd⟩]
      refine visitO_eq hn i d hd x l _ hr (fun z hz => ?_) (nodup_snoc hnd hin)
      rw [nodes_snoc, List.mem_append, List.mem_singleton] at hz
      rcases hz with hz | rfl
      · exact hE z hz
      · exact h2
theorem nb_line {n : Nat} {x : ByteArray} {l : List S83} (h : ∀ m ∈ l, lineN n (mv x m.f0 m.f1)) : ∀ p ∈ l.map (fun m => (m, mv x m.f0 m.f1)), lineN n p.2 := fun p hp => by
  obtain ⟨m, hm, rfl⟩ := List.mem_map.1 hp
  exact h m hm
theorem pathsO_eq {n : Nat} (hn : n ≤ 10) (M : ByteArray → Option (List S83)) (ms : ByteArray → List S83) (hM : ∀ x, lineN n x → M x = some (ms x) ∧ (ms x).length ≤ 1000000)
    (hm : ∀ x, lineN n x → ∀ m ∈ ms x, impl_made.f x m.f0 m.f1 = some (mv x m.f0 m.f1) ∧ lineN n (mv x m.f0 m.f1)) : ∀ (k i : Nat) (E : List PEnt), (∀ z ∈ Bfs.nodes E, lineN n z) → (Bfs.nodes E).Nodup → Flat E → pathsO M k i E = Bfs.bfs (nbM ms) k i E
  | 0, _, _, _, _, _ => rfl
  | k + 1, i, E, hE, hnd, hf => by
    rw [pathsO, Bfs.bfs]
    cases he : E[i]? with
    | none => rfl
    | some e =>
      simp only
      have hle := hE e.node (Bfs.mem_nodes.2 ⟨i, e, he, rfl⟩)
      have hi := Bfs.get_lt he
      have hd := hf i e he
      have hlen := lineN_most hn hnd hE
      obtain ⟨h1, h2⟩ := hM e.node hle
      rw [h1, Option.bind_some, if_pos h2, visitO_eq hn i e.dep (by omega) e.node (ms e.node) E (hm e.node hle) hE hnd, Option.bind_some]
      exact pathsO_eq hn M ms hM hm k (i + 1) _ (Bfs.visit_all i e.dep _ E hE (nb_line fun m hm' => (hm e.node hle m hm').2)) (visit_nodup i e.dep _ E hnd) (visit_flat i e.dep hd _ E hi hf)
theorem mv_all' {a : ByteArray} (h : a.data.toList.all sgn = true) (f t : Int) (f0 : 0 ≤ f) (f1 : f < (a.size : Int)) : (mv a f t).data.toList.all sgn = true := by
  have hf : f.toNat < a.data.toList.length := by rw [data_length]; omega
  unfold mv
  rw [List.all_eq_true] at h ⊢
  intro x hx
  have hx2 : x ∈ (a.data.toList.set t.toNat (a.data.toList.getD f.toNat 0)).set f.toNat 46 := by simpa using hx
  rcases List.mem_or_eq_of_mem_set hx2 with hx3 | rfl
  · rcases List.mem_or_eq_of_mem_set hx3 with hx4 | rfl
    · exact h x hx4
    · rw [List.getD_eq_getElem?_getD, List.getElem?_eq_getElem hf]
      exact h _ (List.getElem_mem hf)
  · rfl
end Go.Proofs.YtjgijaocinpkhaaDoor.XZ

namespace Go.Proofs.YtjgijaocinpkhaaDoor.XZ
set_option linter.unusedVariables false
set_option linter.unusedSimpArgs false
open Go Go.RowKit Go.Proofs.YtjgijaocinpkhaaDoorW.PrintWords Go.Proofs.YtjgijaocinpkhaaDoor.Pm Go.Proofs.YtjgijaocinpkhaaDoor.Srts

theorem posS_at {y : ByteArray} {R : List ByteArray} (h : y ∈ R) : posS y R < R.length ∧ R[posS y R]? = some y := by
  have hl : posS y R < R.length := List.findIdx_lt_length_of_exists ⟨y, h, by simp⟩
  have hp := List.findIdx_getElem (p := fun r : ByteArray => r.toList == y.toList) (w := hl)
  refine ⟨hl, ?_⟩
  rw [List.getElem?_eq_getElem hl]
  have : (R[posS y R]).toList = y.toList := eq_of_beq hp
  exact congrArg some (tl_inj this)
theorem posS_no {y : ByteArray} {R : List ByteArray} (h : y ∉ R) : posS y R = R.length := by
  rcases Nat.lt_or_ge (posS y R) R.length with h1 | h1
  · have hp := List.findIdx_getElem (p := fun r : ByteArray => r.toList == y.toList) (w := h1)
    have h2 : (R[posS y R]).toList = y.toList := eq_of_beq hp
    exact absurd (tl_inj h2 ▸ List.getElem_mem h1 : y ∈ R) h
  · exact Nat.le_antisymm (pos_le y R) h1
theorem posS_append {y : ByteArray} {R S : List ByteArray} (h : y ∈ R) : posS y (R ++ S) = posS y R := by
  have h2 : List.findIdx (fun r : ByteArray => r.toList == y.toList) R < R.length := (posS_at h).1
  unfold posS
  rw [List.findIdx_append, if_pos h2]
theorem posS_get {R : List ByteArray} (hn : R.Nodup) {k : Nat} {x : ByteArray} (hx : R[k]? = some x) : posS x R = k := by
  have h := posS_at (List.mem_of_getElem? hx)
  exact (List.getElem?_inj h.1 hn).1 (by rw [h.2, hx])

section
variable (nb : ByteArray → List (S83 × ByteArray)) (R : List ByteArray)
def plc (x : ByteArray) : List Int := (nb x).map fun p => ((posS p.2 R : Nat) : Int)
end
/-- a closed graph -/
structure Closed (nb : ByteArray → List (S83 × ByteArray)) (R : List ByteArray) : Prop where
  nd : R.Nodup
  cl : ∀ x ∈ R, ∀ p ∈ nb x, p.2 ∈ R
end Go.Proofs.YtjgijaocinpkhaaDoor.XZ

namespace Go.Proofs.YtjgijaocinpkhaaDoor.XZ
set_option linter.unusedVariables false
set_option linter.unusedSimpArgs false
open Go Go.RowKit Go.Proofs.YtjgijaocinpkhaaDoorW.PrintWords Go.Proofs.YtjgijaocinpkhaaDoorB Go.Proofs.YtjgijaocinpkhaaDoor.Pm Go.Proofs.YtjgijaocinpkhaaDoor.Srts

theorem rmoves_line {n : Nat} (hn : n ≤ 9) {x : ByteArray} (h : lineN n x) {m : S83} (hm : m ∈ rmoves x) : impl_made.f x m.f0 m.f1 = some (mv x m.f0 m.f1) ∧ spec_liMake.f x m.f0 m.f1 = some (mv x m.f0 m.f1) ∧ lineN n (mv x m.f0 m.f1) := by
  obtain ⟨f, t⟩ := m
  have hs : x.size = n := h.1
  obtain ⟨f0, f1, t0, t1, ne⟩ := rcan_in ((rmoves_mem x f t).1 hm)
  exact ⟨impl_made_eq x (by omega) f t f0 f1 t0 t1 ne, liMake_eq x (by omega) f t f0 f1 t0 t1 ne, by rw [← hs]; exact ⟨mv_size x f t, mv_all' h.2 f t f0 f1⟩⟩
theorem visit_nodes (i d : Nat) : ∀ (l : List (S83 × ByteArray)) (E : List PEnt), (∃ S, Bfs.nodes (Bfs.visit i d l E) = Bfs.nodes E ++ S) ∧ ∀ p ∈ l, p.2 ∈ Bfs.nodes (Bfs.visit i d l E)
  | [], E => ⟨⟨[], by rw [Bfs.visit, List.append_nil]⟩, by simp⟩
  | (m, y) :: l, E => by
    rw [Bfs.visit]
    split
    · rename_i hy
      obtain ⟨⟨S, h1⟩, h2⟩ := visit_nodes i d l E
      refine ⟨⟨S, h1⟩, fun p hp => ?_⟩
      rcases List.mem_cons.1 hp with rfl | hp
      · rw [h1]
        exact List.mem_append_left _ hy
      · exact h2 p hp
    · obtain ⟨⟨S, h1⟩, h2⟩ := visit_nodes i d l (E ++ [⟨y, (i : Int), m, d + 1⟩])
      rw [nodes_snoc] at h1
      refine ⟨⟨[y] ++ S, by rw [h1, List.append_assoc]⟩, fun p hp => ?_⟩
      rcases List.mem_cons.1 hp with rfl | hp
      · rw [h1]
        exact List.mem_append_left _ (List.mem_append_right _ (List.mem_singleton.2 rfl))
      · exact h2 p hp
theorem nextS_eq {n : Nat} (hn : n ≤ 10) (i d : Nat) (x : ByteArray) : ∀ (l : List S83) (E : List PEnt) (ns : List Int), (∀ m ∈ l, spec_liMake.f x m.f0 m.f1 = some (mv x m.f0 m.f1) ∧ lineN n (mv x m.f0 m.f1)) → (∀ z ∈ Bfs.nodes E, lineN n z) → (Bfs.nodes E).Nodup →
    nextS x l (Bfs.nodes E) ns = some (Bfs.nodes (Bfs.visit i d (l.map fun m => (m, mv x m.f0 m.f1)) E), ns ++ (l.map fun m => (m, mv x m.f0 m.f1)).map fun p => ((posS p.2 (Bfs.nodes (Bfs.visit i d (l.map fun m => (m, mv x m.f0 m.f1)) E)) : Nat) : Int))
  | [], E, ns, _, _, _ => by
    rw [nextS, List.map_nil, Bfs.visit, List.map_nil, List.append_nil]
  | m :: l, E, ns, hl, hE, hnd => by
    obtain ⟨h1, h2⟩ := hl m List.mem_cons_self
    have hr := fun m' hm' => hl m' (List.mem_cons_of_mem _ hm')
    have hlen := lineN_most hn hnd hE
    rw [nextS, h1, Option.bind_some, if_pos (by rw [show (Bfs.nodes E).length = E.length from List.length_map _]; omega), List.map_cons, Bfs.visit]
    by_cases hin : mv x m.f0 m.f1 ∈ Bfs.nodes E
    · have ha : addS (mv x m.f0 m.f1) (Bfs.nodes E) = Bfs.nodes E := by unfold addS; rw [if_pos (posS_at hin).1]
      rw [ha, if_pos hin, nextS_eq hn i d x l E _ hr hE hnd]
      obtain ⟨⟨S, hS⟩, _⟩ := visit_nodes i d (l.map fun m => (m, mv x m.f0 m.f1)) E
      rw [List.map_cons, List.append_assoc, List.singleton_append, hS, posS_append hin]
    · have ha : addS (mv x m.f0 m.f1) (Bfs.nodes E) = Bfs.nodes (E ++ [⟨mv x m.f0 m.f1, (i : Int), m, d + 1⟩]) := by
        unfold addS
        rw [posS_no hin, if_neg (Nat.lt_irrefl _), nodes_snoc]
      have hps : posS (mv x m.f0 m.f1) (Bfs.nodes E) = posS (mv x m.f0 m.f1) (Bfs.nodes (E ++ [⟨mv x m.f0 m.f1, (i : Int), m, d + 1⟩])) := by
        rw [posS_no hin]
        refine (posS_get (nodup_snoc hnd hin) ?_).symm
        rw [nodes_snoc]
        simp
      rw [ha, if_neg hin, hps]
      have hin2 : mv x m.f0 m.f1 ∈ Bfs.nodes (E ++ [⟨mv x m.f0 m.f1, (i : Int), m, d + 1⟩]) := by rw [nodes_snoc]; simp
      rw [nextS_eq hn i d x l (E ++ [⟨mv x m.f0 m.f1, (i : Int), m, d + 1⟩]) _ hr (fun z hz => by
        rw [nodes_snoc, List.mem_append, List.mem_singleton] at hz
        rcases hz with hz | rfl
        · exact hE z hz
        · exact h2) (nodup_snoc hnd hin)]
      obtain ⟨⟨S, hS⟩, _⟩ := visit_nodes i d (l.map fun m => (m, mv x m.f0 m.f1)) (E ++ [⟨mv x m.f0 m.f1, (i : Int), m, d + 1⟩])
      rw [List.map_cons, List.append_assoc, List.singleton_append, hS, posS_append hin2]
theorem plc_append {nb : ByteArray → List (S83 × ByteArray)} {R S : List ByteArray} {x : ByteArray} (h : ∀ p ∈ nb x, p.2 ∈ R) : plc nb (R ++ S) x = plc nb R x := by
  unfold plc
  exact List.map_congr_left fun p hp => by rw [posS_append (h p hp)]
theorem reachC_eq {n : Nat} (hn : n ≤ 10) (M : ByteArray → Option (List S83)) (ms : ByteArray → List S83) (hM : ∀ x, lineN n x → M x = some (ms x) ∧ (ms x).length ≤ 1000000)
    (hm : ∀ x, lineN n x → ∀ m ∈ ms x, spec_liMake.f x m.f0 m.f1 = some (mv x m.f0 m.f1) ∧ lineN n (mv x m.f0 m.f1)) : ∀ (k i : Nat) (E E' : List PEnt) (N : List (List Int)), (∀ z ∈ Bfs.nodes E, lineN n z) → (Bfs.nodes E).Nodup → i ≤ E.length →
    N = ((Bfs.nodes E).take i).map (plc (nbM ms) (Bfs.nodes E)) → (∀ x ∈ (Bfs.nodes E).take i, ∀ p ∈ nbM ms x, p.2 ∈ Bfs.nodes E) → Bfs.bfs (nbM ms) k i E = some E' →
    reachC M k i (Bfs.nodes E) N = some (Bfs.nodes E', (Bfs.nodes E').map (plc (nbM ms) (Bfs.nodes E'))) ∧ Closed (nbM ms) (Bfs.nodes E')
  | 0, _, _, _, _, _, _, _, _, _, h => by cases h
  | k + 1, i, E, E', N, hE, hnd, hi, hN, hc, h => by
    have hlE : (Bfs.nodes E).length = E.length := List.length_map _
    rw [Bfs.bfs] at h
    rw [reachC]
    cases he : E[i]? with
    | none =>
      rw [he] at h
      cases h
      have hie : i = E.length := by
        have := List.getElem?_eq_none_iff.1 he
        omega
      rw [hie, ← hlE, List.take_length] at hN hc
      rw [if_neg (by omega), hN]
      exact ⟨rfl, hnd, hc⟩
    | some e =>
      rw [he] at h
      simp only at h
      have hle := hE e.node (Bfs.mem_nodes.2 ⟨i, e, he, rfl⟩)
      have hil := Bfs.get_lt he
      have hlen := lineN_most hn hnd hE
      obtain ⟨h1, h2⟩ := hM e.node hle
      have hNl : N.length = i := by rw [hN, List.length_map, List.length_take]; omega
      have hrd : rdOf ByteArray.empty (Bfs.nodes E) (i : Int) = e.node := nodes_rd he
      rw [if_pos (by omega), hrd, h1, Option.bind_some, if_pos ⟨h2, by omega⟩, nextS_eq hn i e.dep e.node (ms e.node) E [] (hm e.node hle) hE hnd, Option.bind_some]
      obtain ⟨⟨S, hS⟩, hin⟩ := visit_nodes i e.dep ((ms e.node).map fun m => (m, mv e.node m.f0 m.f1)) E
      have hge : (Bfs.nodes E)[i]? = some e.node := by unfold Bfs.nodes; rw [List.getElem?_map, he]; rfl
      have htk : (Bfs.nodes (Bfs.visit i e.dep (nbM ms e.node) E)).take (i + 1) = (Bfs.nodes E).take i ++ [e.node] := by
        rw [show nbM ms e.node = (ms e.node).map fun m => (m, mv e.node m.f0 m.f1) from rfl, hS, List.take_append_of_le_length (by omega), List.take_add_one, hge]
        rfl
      have hall : ∀ x ∈ (Bfs.nodes E).take i ++ [e.node], ∀ p ∈ nbM ms x, p.2 ∈ Bfs.nodes (Bfs.visit i e.dep (nbM ms e.node) E) := fun x hx p hp => by
        rcases List.mem_append.1 hx with hx | hx
        · rw [show nbM ms e.node = (ms e.node).map fun m => (m, mv e.node m.f0 m.f1) from rfl, hS]
          exact List.mem_append_left _ (hc x hx p hp)
        · rw [List.mem_singleton] at hx
          subst hx
          exact hin p hp
      refine reachC_eq hn M ms hM hm k (i + 1) _ E' _ (Bfs.visit_all i e.dep _ E hE (nb_line fun m hm' => (hm e.node hle m hm').2)) (visit_nodup i e.dep _ E hnd) ?_ ?_ ?_ h
      · have : (Bfs.nodes (Bfs.visit i e.dep (nbM ms e.node) E)).length = (Bfs.visit i e.dep (nbM ms e.node) E).length := List.length_map _
        have h3 := Bfs.visit_length i e.dep (nbM ms e.node) E
        show i + 1 ≤ (Bfs.visit i e.dep (nbM ms e.node) E).length
        omega
      · show N ++ _ = ((Bfs.nodes (Bfs.visit i e.dep (nbM ms e.node) E)).take (i + 1)).map _
        rw [htk, List.map_append, hN]
        congr 1
        refine List.map_congr_left fun x hx => ?_
        show _ = plc (nbM ms) (Bfs.nodes (Bfs.visit i e.dep (nbM ms e.node) E)) x
        rw [show nbM ms e.node = (ms e.node).map fun m => (m, mv e.node m.f0 m.f1) from rfl, hS, plc_append (hc x hx)]
      · show ∀ x ∈ (Bfs.nodes (Bfs.visit i e.dep (nbM ms e.node) E)).take (i + 1), _
        rw [htk]
        exact hall
/-- the rings that are reached: the program's and the reference's -/
theorem ring_found {n : Nat} (h3 : 3 ≤ n) (hn : n ≤ 9) {a : ByteArray} (ha : lineN n a) : ∃ E : List PEnt, ringO 100000 a = some E ∧ ringG 3000 100000 a = some (Bfs.nodes E, (Bfs.nodes E).map (plc (nbM rmoves) (Bfs.nodes E))) ∧ Closed (nbM rmoves) (Bfs.nodes E) ∧
    Bfs.Found (nbM rmoves) ⟨a, -1, ⟨0, 0⟩, 0⟩ E ∧ (∀ x ∈ Bfs.nodes E, lineN n x) ∧ E.length ≤ 59049 := by
  have hs : a.size = n := ha.1
  obtain ⟨E, e1, e2, e3, e4⟩ := Bfs.bfs_some (nb := nbM rmoves) (P := lineN n) (U := allN n) (r := (⟨a, -1, ⟨0, 0⟩, 0⟩ : PEnt))
    (fun x hx p hp => nb_line (l := rmoves x) (fun m hm => (rmoves_line hn hx hm).2.2) p hp) (fun x hx => allN_mem hx) ha 100000 (by
      rw [allN_length]
      have : 3 ^ n ≤ 3 ^ 10 := Nat.pow_le_pow_right (by decide) (by omega)
      omega)
  have hE : ∀ z ∈ Bfs.nodes [(⟨a, -1, ⟨0, 0⟩, 0⟩ : PEnt)], lineN n z := fun z hz => by
    simp [Bfs.nodes] at hz
    subst hz
    exact ha
  have hN : (Bfs.nodes [(⟨a, -1, ⟨0, 0⟩, 0⟩ : PEnt)]).Nodup := by simp [Bfs.nodes]
  have hF : Flat [(⟨a, -1, ⟨0, 0⟩, 0⟩ : PEnt)] := fun j e he => by
    cases j with
    | zero => cases he; exact Nat.le_refl _
    | succ j => simp at he
  obtain ⟨g1, g2⟩ := reachC_eq (n := n) (by omega) (fun s => spec_ciMoves.f 3000 s) rmoves (fun x hx => ⟨ciMoves_eq x (by rw [hx.1]; exact h3) (by rw [hx.1]; exact hn) hx.2 3000 (by omega), by have := rmoves_length x; have := hx.1; omega⟩) (fun x hx m hm => ⟨(rmoves_line hn hx hm).2.1, (rmoves_line hn hx hm).2.2⟩) 100000 0 [(⟨a, -1, ⟨0, 0⟩, 0⟩ : PEnt)] E [] hE hN (Nat.zero_le _) rfl (by simp) e1
  refine ⟨E, ?_, g1, g2, e2, e3, lineN_most (by omega) e2.nodup e3⟩
  unfold ringO
  rw [if_pos (by omega), pathsO_eq (n := n) (by omega) _ rmoves (fun x hx => ⟨impl_ringMoves_eq x (by rw [hx.1]; exact h3) (by rw [hx.1]; exact hn) 2000 (by omega), by have := rmoves_length x; have := hx.1; omega⟩) (fun x hx m hm => ⟨(rmoves_line hn hx hm).1, (rmoves_line hn hx hm).2.2⟩) 100000 0 _ hE hN hF]
  exact e1
end Go.Proofs.YtjgijaocinpkhaaDoor.XZ

namespace Go.Proofs.YtjgijaocinpkhaaDoor.XZ
set_option linter.unusedVariables false
set_option linter.unusedSimpArgs false
open Go Go.RowKit Go.Proofs.YtjgijaocinpkhaaDoorW.PrintWords Go.Proofs.YtjgijaocinpkhaaDoorB Go.Proofs.YtjgijaocinpkhaaDoor.Pm Go.Proofs.YtjgijaocinpkhaaDoor.Srts Go.Proofs.YtjgijaocinpkhaaDoor.Sorts

theorem sorted_perm (l : List ByteArray) : (sorted l).Perm l := by
  have h := (List.mergeSort_perm (Go.Proofs.YtjgijaocinpkhaaDoor.Sorts.bytes l) fun x y => decide (x ≤ y)).map (fun l : List UInt8 => (⟨l.toArray⟩ : ByteArray))
  have e : (Go.Proofs.YtjgijaocinpkhaaDoor.Sorts.bytes l).map (fun l : List UInt8 => (⟨l.toArray⟩ : ByteArray)) = l := texts_bytes l
  rw [e] at h
  exact h
theorem sorted_length (l : List ByteArray) : (sorted l).length = l.length := (sorted_perm l).length_eq
theorem sorted_srt {l : List ByteArray} (h : l.Nodup) : Srt (sorted l) := by
  have h1 := sorted_le l
  have h2 : (sorted l).Nodup := (sorted_perm l).nodup_iff.2 h
  exact (h1.and h2).imp fun h => leB_lt h.1 h.2
theorem rdS_at {l : List ByteArray} {i : Nat} (h : i < l.length) : l[i]? = some (rdOf ByteArray.empty l (i : Int)) := by
  unfold rdOf
  rw [Int.toNat_natCast, List.getD_eq_getElem?_getD, List.getElem?_eq_getElem h]
  rfl
theorem ciSorted_l1 (l out : List ByteArray) (y : ByteArray) (i : Nat) (ho : out.length ≤ 60000) (hs : Srt out) : ∀ (d p k : Nat), p + d = out.length → d < k → (∀ j x, out[j]? = some x → j < p → lsB x y = true) →
    ∃ q k', q ≤ out.length ∧ k ≤ k' + d + 1 ∧ spec_ciSorted.l1 k out y (p : Int) l (l.length : Int) (i : Int) = spec_ciSorted.l0 k' ((out.take q ++ [y]) ++ out.drop q) l (l.length : Int) (wrap64 ((i : Int) + 1)) ∧
      (∀ j x, out[j]? = some x → j < q → lsB x y = true) ∧ (∀ j x, out[j]? = some x → q ≤ j → lsB x y = false) := by
  intro d
  induction d with
  | zero =>
    intro p k hp hk h1
    obtain ⟨k, rfl⟩ : ∃ m, k = m + 1 := ⟨k - 1, by omega⟩
    refine ⟨p, k, by omega, by omega, ?_, h1, fun j x hj hle => by rw [List.getElem?_eq_none (by omega)] at hj; cases hj⟩
    rw [spec_ciSorted.l1, if_neg (by omega), if_pos (by omega), if_pos (by omega), Int.toNat_natCast]
    unfold spec_l1OwnS.f
    simp only [Option.bind_some, List.nil_append, List.length_nil, Nat.zero_add]
    rw [if_pos (by rw [List.length_take]; omega)]
    simp only [Option.bind_some]
    rw [if_pos (by rw [List.length_take]; omega), if_pos (by rw [List.length_append, List.length_take, List.length_drop, List.length_singleton]; omega)]
  | succ d ih =>
    intro p k hp hk h1
    obtain ⟨k, rfl⟩ : ∃ m, k = m + 1 := ⟨k - 1, by omega⟩
    have hpl : p < out.length := by omega
    have hat := rdS_at hpl
    cases hc : Op.bytesLess ((rdOf ByteArray.empty out (p : Int)).toList) y.toList with
    | true =>
      obtain ⟨q, k', g1, g2, g3, g4, g5⟩ := ih (p + 1) k (by omega) (by omega) (fun j x hj hlt => by
        rcases Nat.lt_or_ge j p with g | g
        · exact h1 j x hj g
        · obtain rfl : j = p := by omega
          rw [hat] at hj
          cases hj
          exact hc)
      refine ⟨q, k', g1, by omega, ?_, g4, g5⟩
      rw [spec_ciSorted.l1, if_pos (by omega), if_pos (by omega), if_pos hc, w64_succ (n := out.length) hpl (by omega)]
      exact g3
    | false =>
      refine ⟨p, k, by omega, by omega, ?_, h1, fun j x hj hle => ?_⟩
      · rw [spec_ciSorted.l1, if_pos (by omega), if_pos (by omega), if_neg (by rw [hc]; decide), if_pos (by omega), Int.toNat_natCast]
        unfold spec_l1OwnS.f
        simp only [Option.bind_some, List.nil_append, List.length_nil, Nat.zero_add]
        rw [if_pos (by rw [List.length_take]; omega)]
        simp only [Option.bind_some]
        rw [if_pos (by rw [List.length_take]; omega), if_pos (by rw [List.length_append, List.length_take, List.length_drop, List.length_singleton]; omega)]
      · rcases Nat.lt_or_ge p j with g | g
        · have hjl := (List.getElem?_eq_some_iff.1 hj).1
          have hpw := List.pairwise_iff_getElem.1 hs p j hpl hjl g
          have e1 : out[p] = rdOf ByteArray.empty out (p : Int) := by
            rw [List.getElem?_eq_getElem hpl] at hat
            exact Option.some.inj hat
          have e2 : out[j] = x := by
            rw [List.getElem?_eq_getElem hjl] at hj
            exact Option.some.inj hj
          rw [e1, e2] at hpw
          cases hx : lsB x y with
          | false => rfl
          | true =>
            have := lsB_trans hpw hx
            unfold lsB at this
            rw [hc] at this
            cases this
        · obtain rfl : j = p := by omega
          rw [hat] at hj
          cases hj
          exact hc
def needR : Nat → Nat
  | 0 => 1
  | d + 1 => needR d + 60003
theorem needR_pos : ∀ d, 1 ≤ needR d
  | 0 => Nat.le_refl _
  | d + 1 => Nat.le_trans (needR_pos d) (Nat.le_add_right _ _)
theorem needR_le : ∀ d, needR d ≤ d * 60003 + 1
  | 0 => Nat.le_refl _
  | d + 1 => by
    have := needR_le d
    rw [needR, Nat.succ_mul]
    exact Nat.le_trans (Nat.add_le_add_right this 60003) (Nat.le_of_eq (Nat.add_right_comm _ _ _))
theorem needR_most {d : Nat} (h : d ≤ 60000) : needR d ≤ 4000000000 := Nat.le_trans (needR_le d) (Nat.le_trans (Nat.succ_le_succ (Nat.mul_le_mul_right 60003 h)) (by decide))
theorem k_room {a k n : Nat} (h : a + 60003 ≤ k + 1) (h3 : n ≤ 60000) : n < k := by omega
theorem k_step2 {a k k' n : Nat} (h : a + 60003 ≤ k + 1) (h2 : k ≤ k' + n + 1) (h3 : n ≤ 60000) : a ≤ k' := by omega
theorem ciSorted_l0 (l : List ByteArray) (hl : l.length ≤ 60000) (hn : l.Nodup) : ∀ (d i k : Nat) (out : List ByteArray), i + d = l.length → needR d ≤ k → Srt out → out.length = i → (∀ x, x ∈ out ↔ x ∈ l.take i) →
    ∃ r, spec_ciSorted.l0 k out l (l.length : Int) (i : Int) = some r ∧ Srt r ∧ ∀ x, x ∈ r ↔ x ∈ l := by
  intro d
  induction d with
  | zero =>
    intro i k out hi hk hs ho hm
    obtain ⟨k, rfl⟩ : ∃ m, k = m + 1 := ⟨k - 1, by have := Nat.le_trans (needR_pos _) hk; omega⟩
    refine ⟨out, by rw [spec_ciSorted.l0, if_neg (by omega)], hs, fun x => ?_⟩
    rw [hm, List.take_of_length_le (by omega)]
  | succ d ih =>
    intro i k out hi hk hs ho hm
    obtain ⟨k, rfl⟩ : ∃ m, k = m + 1 := ⟨k - 1, by have := Nat.le_trans (needR_pos _) hk; omega⟩
    have hil : i < l.length := by omega
    have hat := rdS_at hil
    obtain ⟨q, k', g1, g2, g3, g4, g5⟩ := ciSorted_l1 l out (rdOf ByteArray.empty l (i : Int)) i (by omega) hs out.length 0 k (by omega) (k_room hk (by omega)) (fun j x hj h => by omega)
    have hge : l[i] = rdOf ByteArray.empty l (i : Int) := by
      rw [List.getElem?_eq_getElem hil] at hat
      exact Option.some.inj hat
    have hny : rdOf ByteArray.empty l (i : Int) ∉ out := fun h => by
      rw [hm] at h
      obtain ⟨j, hj⟩ := List.mem_iff_getElem?.1 h
      rw [List.getElem?_take] at hj
      split at hj
      · rename_i hji
        have := (List.getElem?_inj (by omega) hn).1 (hj.trans hat.symm)
        omega
      · cases hj
    obtain ⟨_, s1, s3⟩ := ins_srt hs g4 g5 (fun h => hny (List.mem_of_getElem? h))
    obtain ⟨r, r1, r2, r3⟩ := ih (i + 1) k' ((out.take q ++ [rdOf ByteArray.empty l (i : Int)]) ++ out.drop q) (by omega) (k_step2 hk g2 (by omega)) s1 (by rw [List.length_append, List.length_append, List.length_take, List.length_drop, List.length_singleton]; omega) (fun x => by
      rw [s3, hm, List.take_add_one, hat, Option.toList_some, List.mem_append, List.mem_singleton]
      exact Or.comm)
    refine ⟨r, ?_, r2, r3⟩
    rw [spec_ciSorted.l0, if_pos (by omega), if_pos (by omega), if_pos (by omega), show spec_ciSorted.l1 k out (rdOf ByteArray.empty l (i : Int)) 0 l (l.length : Int) (i : Int) = _ from g3, w64_succ (n := l.length) hil (by omega)]
    exact r1
theorem ciSorted_eq (l : List ByteArray) (hl : l.length ≤ 60000) (hn : l.Nodup) (k : Nat) (hk : 4000000000 ≤ k) : spec_ciSorted.f k l = some (sorted l) := by
  unfold spec_ciSorted.f
  obtain ⟨r, r1, r2, r3⟩ := ciSorted_l0 l hl hn l.length 0 k [] (by omega) (Nat.le_trans (needR_most hl) hk) List.Pairwise.nil rfl (by simp)
  have e : r = sorted l := srt_unique r2 (sorted_srt hn) (fun x => by rw [r3, Go.Proofs.YtjgijaocinpkhaaDoor.Sorts.mem_sorted])
  rw [← e]
  exact r1
end Go.Proofs.YtjgijaocinpkhaaDoor.XZ

namespace Go.Proofs.YtjgijaocinpkhaaDoor.XZ
set_option linter.unusedVariables false
set_option linter.unusedSimpArgs false
open Go Go.RowKit Go.Proofs.YtjgijaocinpkhaaDoorW.PrintWords Go.Proofs.YtjgijaocinpkhaaDoorB

theorem markText_l0 : ∀ (d : Nat) (n : Nat) (s : ByteArray), n < 10 ^ d → s.size + d ≤ 1000 → n ≤ 1000000000 → ∃ t, ∀ k, d < k → laws_markText.l0 k (n : Int) s = some t := by
  intro d
  induction d with
  | zero =>
    intro n s hn hs _
    refine ⟨(⟨#[109]⟩ : ByteArray) ++ s, fun k hk => ?_⟩
    obtain ⟨k, rfl⟩ : ∃ m, k = m + 1 := ⟨k - 1, by omega⟩
    rw [laws_markText.l0, if_neg (by omega), if_pos (by omega)]
  | succ d ih =>
    intro n s hn hs hb
    by_cases h0 : n = 0
    · subst h0
      refine ⟨(⟨#[109]⟩ : ByteArray) ++ s, fun k hk => ?_⟩
      obtain ⟨k, rfl⟩ : ∃ m, k = m + 1 := ⟨k - 1, by omega⟩
      rw [laws_markText.l0, if_neg (by decide), if_pos (by omega)]
    · have hsz : ∀ z : Int, (strOfNums [z]).size = 1 := fun z => rfl
      obtain ⟨t, ht⟩ := ih (n / 10) (strOfNums [(wrap64 (48 + (Int.tmod (n : Int) 10))) % 256] ++ s) (by rw [Nat.pow_succ] at hn; omega) (by rw [ByteArray.size_append, hsz]; omega) (by omega)
      refine ⟨t, fun k hk => ?_⟩
      obtain ⟨k, rfl⟩ : ∃ m, k = m + 1 := ⟨k - 1, by omega⟩
      have hq : wrap64 (Int.tdiv (n : Int) 10) = ((n / 10 : Nat) : Int) := by rw [Int.tdiv_eq_ediv_of_nonneg (by omega), w64 (by omega) (by omega)]; omega
      rw [laws_markText.l0, if_pos (by omega)]
      simp only [Option.bind_some]
      rw [if_pos (by rw [hsz]; omega), hq]
      exact ht k (by omega)
theorem markText_some (n : Nat) (hn : n ≤ 200000) : ∃ t, ∀ k, 10 ≤ k → laws_markText.f k (n : Int) = some t := by
  obtain ⟨t, ht⟩ := markText_l0 6 n ⟨#[]⟩ (by omega) (by decide) (by omega)
  by_cases h0 : n = 0
  · subst h0
    exact ⟨_, fun k _ => by unfold laws_markText.f; rw [if_pos (by decide)]⟩
  · exact ⟨t, fun k hk => by unfold laws_markText.f; rw [if_neg (by omega)]; exact ht k (by omega)⟩
def markT (n : Nat) : ByteArray := (laws_markText.f 10 (n : Int)).getD ⟨#[]⟩
theorem markText_eq (n : Nat) (hn : n ≤ 200000) (k : Nat) (hk : 10 ≤ k) : laws_markText.f k (n : Int) = some (markT n) := by
  obtain ⟨t, ht⟩ := markText_some n hn
  unfold markT
  rw [ht k hk, ht 10 (by omega)]
  rfl
theorem rdS_set (l : List ByteArray) (i j : Nat) (v : ByteArray) (hi : i < l.length) : rdOf ByteArray.empty (l.set i v) (j : Int) = if j = i then v else rdOf ByteArray.empty l (j : Int) := by
  unfold rdOf
  rw [Int.toNat_natCast, List.getD_eq_getElem?_getD, List.getD_eq_getElem?_getD, List.getElem?_set]
  by_cases h : j = i
  · subst h
    simp [hi]
  · rw [if_neg (fun e => h e.symm), if_neg h]
theorem markStringS_l0 (n : Nat) (hs : n ≤ 100000) : ∀ (d i k : Nat) (l : List ByteArray), l.length = n → i + d = n → d + 20 < k → (∀ j : Nat, j < i → rdOf ByteArray.empty l (j : Int) = markT (j + 1)) →
    ∃ y, laws_markStringS.l0 k l ((i + 1 : Nat) : Int) (i : Int) = some (((n + 1 : Nat) : Int), y) ∧ y.length = n ∧ ∀ j : Nat, j < n → rdOf ByteArray.empty y (j : Int) = markT (j + 1) := by
  intro d
  induction d with
  | zero =>
    intro i k l hl hi hk h
    obtain ⟨k, rfl⟩ : ∃ m, k = m + 1 := ⟨k - 1, by omega⟩
    obtain rfl : i = n := by omega
    rw [laws_markStringS.l0, if_neg (by omega)]
    exact ⟨l, rfl, hl, h⟩
  | succ d ih =>
    intro i k l hl hi hk h
    obtain ⟨k, rfl⟩ : ∃ m, k = m + 1 := ⟨k - 1, by omega⟩
    rw [laws_markStringS.l0, if_pos (by omega), markText_eq (i + 1) (by omega) k (by omega)]
    simp only [Option.bind_some]
    rw [if_pos (by omega), Int.toNat_natCast, w64_succ (i := i + 1) (n := n + 1) (by omega) (by omega), w64_succ (i := i) (n := n) (by omega) (by omega)]
    exact ih (i + 1) k (l.set i (markT (i + 1))) (by rw [List.length_set]; exact hl) (by omega) (by omega) fun j hj => by
      rw [rdS_set l i j _ (by omega)]
      by_cases e : j = i
      · rw [if_pos e, e]
      · rw [if_neg e]
        exact h j (by omega)
theorem markStringS_eq (l : List ByteArray) (hs : l.length ≤ 100000) (k : Nat) (hk : l.length + 20 < k) : ∃ y, laws_markStringS.f k l 1 = some (((l.length + 1 : Nat) : Int), y) ∧ y.length = l.length ∧ ∀ j : Nat, j < l.length → rdOf ByteArray.empty y (j : Int) = markT (j + 1) :=
  markStringS_l0 l.length hs l.length 0 k l rfl (by omega) hk (fun j hj => by omega)
theorem heldStringS_l0 (y : List ByteArray) (hs : y.length ≤ 100000) (h : ∀ j : Nat, j < y.length → rdOf ByteArray.empty y (j : Int) = markT (j + 1)) : ∀ (d i k : Nat), i + d = y.length → d + 20 < k → laws_heldStringS.l0 k y ((i + 1 : Nat) : Int) (i : Int) = some ((y.length + 1 : Nat) : Int) := by
  intro d
  induction d with
  | zero =>
    intro i k hi hk
    obtain ⟨k, rfl⟩ : ∃ m, k = m + 1 := ⟨k - 1, by omega⟩
    obtain rfl : i = y.length := by omega
    rw [laws_heldStringS.l0, if_neg (by omega)]
  | succ d ih =>
    intro i k hi hk
    obtain ⟨k, rfl⟩ : ∃ m, k = m + 1 := ⟨k - 1, by omega⟩
    rw [laws_heldStringS.l0, if_pos (by omega), if_pos (by omega), markText_eq (i + 1) (by omega) k (by omega)]
    simp only [Option.bind_some]
    rw [h i (by omega), if_pos rfl, w64_succ (i := i + 1) (n := y.length + 1) (by omega) (by omega), w64_succ (i := i) (n := y.length) (by omega) (by omega)]
    exact ih (i + 1) k (by omega) (by omega)
theorem heldStringS_eq (y : List ByteArray) (hs : y.length ≤ 100000) (h : ∀ j : Nat, j < y.length → rdOf ByteArray.empty y (j : Int) = markT (j + 1)) (k : Nat) (hk : y.length + 20 < k) : laws_heldStringS.f k y 1 = some ((y.length + 1 : Nat) : Int) :=
  heldStringS_l0 y hs h y.length 0 k (by omega) hk
theorem eqStringS_l0 (l : List ByteArray) (hs : l.length ≤ 10000000) : ∀ (d i k : Nat), i + d = l.length → d < k → laws_eqStringS.l0 k l l (i : Int) = some true := by
  intro d
  induction d with
  | zero =>
    intro i k hi hk
    obtain ⟨k, rfl⟩ : ∃ m, k = m + 1 := ⟨k - 1, by omega⟩
    rw [laws_eqStringS.l0, if_neg (by omega)]
  | succ d ih =>
    intro i k hi hk
    obtain ⟨k, rfl⟩ : ∃ m, k = m + 1 := ⟨k - 1, by omega⟩
    rw [laws_eqStringS.l0, if_pos (by omega), if_pos (by omega), if_pos (by omega), if_pos rfl, w64_succ (n := l.length) (by omega) (by omega)]
    exact ih (i + 1) k (by omega) (by omega)
theorem eqStringS_same (l : List ByteArray) (hs : l.length ≤ 10000000) (k : Nat) (hk : l.length < k) : laws_eqStringS.f k l l = some true := by
  unfold laws_eqStringS.f
  rw [if_pos rfl]
  exact eqStringS_l0 l hs l.length 0 k (by omega) hk
end Go.Proofs.YtjgijaocinpkhaaDoor.XZ
