/- How far all have to go: the reference's sums and the program's loop, for all lines. -/
import Derived.Test.YtoaajkpcefgofaaDoorXA7
import Derived.Test.YtoaajkpcefgofaaDoorLAlast
namespace Go.Proofs.YtoaajkpcefgofaaDoor.XA
set_option linter.unusedVariables false
set_option linter.unusedSimpArgs false
open Go Go.RowKit Go.Proofs.YtoaajkpcefgofaaDoorW.PrintWords Go.Proofs.YtoaajkpcefgofaaDoorB

/-- the sum of all places with a sign -/
def sumAt (c : UInt8) : List UInt8 → Nat → Nat
  | [], _ => 0
  | x :: l, i => (if x = c then i else 0) + sumAt c l (i + 1)
theorem sumAt_le (c : UInt8) : ∀ (l : List UInt8) (i : Nat), sumAt c l i ≤ l.length * (i + l.length)
  | [], _ => by simp [sumAt]
  | x :: l, i => by
    have h := sumAt_le c l (i + 1)
    simp only [sumAt, List.length_cons]
    have h2 : (l.length + 1) * (i + (l.length + 1)) = l.length * (i + 1 + l.length) + (i + (l.length + 1)) := by rw [Nat.add_mul, Nat.one_mul, show i + (l.length + 1) = i + 1 + l.length from by omega]
    split <;> omega
theorem liSum_l0 (a : ByteArray) (hs : a.size ≤ 1000) (c : UInt8) : ∀ (d i k n : Nat), i + d = a.size → d < k → n ≤ i * 1000 → spec_liSum.l0 k a (c.toNat : Int) (n : Int) (i : Int) = some ((n + sumAt c (a.data.toList.drop i) i : Nat) : Int) := by
  intro d
  induction d with
  | zero =>
    intro i k n hi hk hn
    obtain ⟨k, rfl⟩ : ∃ m, k = m + 1 := ⟨k - 1, by omega⟩
    simp only [spec_liSum.l0]
    rw [if_neg (by omega), List.drop_of_length_le (by rw [data_length]; omega)]
    simp [sumAt]
  | succ d ih =>
    intro i k n hi hk hn
    obtain ⟨k, rfl⟩ : ∃ m, k = m + 1 := ⟨k - 1, by omega⟩
    obtain ⟨x, hd, hb⟩ := bt_eq a i (by omega)
    simp only [spec_liSum.l0]
    have hw : wrap64 ((n : Int) + (i : Int)) = ((n + i : Nat) : Int) := by rw [w64 (by omega) (by omega)]; rfl
    have n1 : n + i ≤ (i + 1) * 1000 := by omega
    have n2 : n ≤ (i + 1) * 1000 := by rw [Nat.add_mul]; exact Nat.le_trans hn (Nat.le_add_right _ _)
    have q1 : (0 : Int) ≤ (i : Int) := by omega
    have q2 : (i : Int) < (a.size : Int) := by omega
    rw [if_pos q2, if_pos q1, hb, w64_succ (n := a.size) (by omega) (by omega), hw, ih (i + 1) k (n + i) (by omega) (by omega) n1, ih (i + 1) k n (by omega) (by omega) n2, hd, sumAt]
    simp only [byte_inj]
    by_cases h : x = c
    · rw [if_pos h, if_pos h, Nat.add_assoc]
    · rw [if_neg h, if_neg h, Nat.zero_add]
theorem liSum_eq (a : ByteArray) (hs : a.size ≤ 1000) (c : UInt8) (k : Nat) (hk : a.size < k) : spec_liSum.f k a (c.toNat : Int) = some ((sumAt c a.data.toList 0 : Nat) : Int) := by
  have h := liSum_l0 a hs c a.size 0 k 0 (by omega) hk (by omega)
  rw [List.drop_zero, Nat.zero_add] at h
  exact h
/-- what the program's loop adds up -/
def wayAt : List UInt8 → Int → Int → Nat → Int
  | [], _, _, _ => 0
  | x :: l, t, f, i => if x = 84 then (t - i) + wayAt l (t + 1) f (i + 1) else if x = 70 then ((i : Int) - f) + wayAt l t (f + 1) (i + 1) else wayAt l t f (i + 1)
/-- t, t + 1, .., n of them, together -/
def tri (t : Int) : Nat → Int
  | 0 => 0
  | n + 1 => t + tri (t + 1) n
theorem wayAt_eq : ∀ (l : List UInt8) (t f : Int) (i : Nat), wayAt l t f i = tri t (l.count 84) - sumAt 84 l i + sumAt 70 l i - tri f (l.count 70)
  | [], t, f, i => by simp [wayAt, tri, sumAt]
  | x :: l, t, f, i => by
    simp only [wayAt, sumAt, List.count_cons]
    by_cases h1 : x = 84
    · subst h1
      simp [wayAt_eq l (t + 1) f (i + 1), tri]
      omega
    · by_cases h2 : x = 70
      · subst h2
        simp [wayAt_eq l t (f + 1) (i + 1), tri]
        omega
      · simp [h1, h2, wayAt_eq l t f (i + 1)]
theorem sumAt_append (c : UInt8) : ∀ (l m : List UInt8) (i : Nat), sumAt c (l ++ m) i = sumAt c l i + sumAt c m (i + l.length)
  | [], m, i => by simp [sumAt]
  | x :: l, m, i => by
    simp only [List.cons_append, sumAt, sumAt_append c l m (i + 1), List.length_cons]
    rw [show i + 1 + l.length = i + (l.length + 1) from by omega]
    omega
theorem sumAt_other {c d : UInt8} (h : d ≠ c) : ∀ (n i : Nat), sumAt c (List.replicate n d) i = 0
  | 0, _ => rfl
  | n + 1, i => by simp [List.replicate_succ, sumAt, h, sumAt_other h n (i + 1)]
theorem sumAt_same (c : UInt8) : ∀ (n i : Nat), ((sumAt c (List.replicate n c) i : Nat) : Int) = tri (i : Int) n
  | 0, _ => rfl
  | n + 1, i => by
    simp only [List.replicate_succ, sumAt, tri, if_true]
    have h := sumAt_same c n (i + 1)
    rw [show ((i : Int) + 1) = ((i + 1 : Nat) : Int) from rfl, ← h]
    omega
theorem sum_last_84 (f g t : Nat) : ((sumAt 84 (three 70 f g 84 t).data.toList 0 : Nat) : Int) = tri ((f + g : Nat) : Int) t := by
  rw [three_list, sumAt_append, sumAt_append, sumAt_other (by decide), sumAt_other (by decide)]
  simp only [Nat.zero_add, List.length_replicate]
  exact sumAt_same 84 t _
theorem sum_last_70 (f g t : Nat) : ((sumAt 70 (three 70 f g 84 t).data.toList 0 : Nat) : Int) = tri 0 f := by
  rw [three_list, sumAt_append, sumAt_append, sumAt_other (c := 70) (d := 46) (by decide), sumAt_other (c := 70) (d := 84) (by decide)]
  simp only [Nat.add_zero]
  exact sumAt_same 70 f 0
/-- how far all have to go -/
def wayOf (l : List UInt8) : Int := wayAt l ((l.length : Int) - (l.count 84 : Nat)) 0 0
theorem wayOf_eq (l : List UInt8) (h : l.all sgn = true) : wayOf l = tri ((l.count 70 + l.count 46 : Nat) : Int) (l.count 84) - sumAt 84 l 0 + sumAt 70 l 0 - tri 0 (l.count 70) := by
  unfold wayOf
  rw [wayAt_eq, show ((l.length : Int) - (l.count 84 : Nat)) = ((l.count 70 + l.count 46 : Nat) : Int) from by have := counts_size l h; omega]
theorem sumAt_small (c : UInt8) (l : List UInt8) (h : l.length ≤ 12) : sumAt c l 0 ≤ 144 := by
  have h1 := sumAt_le c l 0
  have h2 : l.length * (0 + l.length) ≤ 12 * 12 := Nat.mul_le_mul h (by omega)
  omega
theorem liWay_eq (a : ByteArray) (h : isLine 12 a = true) (k : Nat) (hk : 20 ≤ k) : spec_liWay.f k a = some (wayOf a.data.toList) := by
  obtain ⟨h1, h12, hl⟩ := isLine_size h
  have hcs := counts_size _ hl
  rw [data_length] at hcs
  unfold spec_liWay.f
  rw [liLast_eq a (by omega) k (by omega)]
  simp only [Option.bind_some]
  have ht : (three 70 (a.data.toList.count 70) (a.data.toList.count 46) 84 (a.data.toList.count 84)).size ≤ 12 := by rw [three_size]; omega
  rw [show spec_liSum.f k a 84 = _ from liSum_eq a (by omega) 84 k (by omega), show spec_liSum.f k a 70 = _ from liSum_eq a (by omega) 70 k (by omega)]
  rw [show spec_liSum.f k (three _ _ _ _ _) 84 = _ from liSum_eq (three 70 _ _ 84 _) (by omega) 84 k (by omega), show spec_liSum.f k (three _ _ _ _ _) 70 = _ from liSum_eq (three 70 _ _ 84 _) (by omega) 70 k (by omega)]
  simp only [Option.bind_some]
  rw [wayOf_eq _ hl, ← sum_last_84, ← sum_last_70 _ (a.data.toList.count 46) (a.data.toList.count 84)]
  have s1 := sumAt_small 84 a.data.toList (by rw [data_length]; omega)
  have s2 := sumAt_small 70 a.data.toList (by rw [data_length]; omega)
  have s3 := sumAt_small 84 (three 70 (a.data.toList.count 70) (a.data.toList.count 46) 84 (a.data.toList.count 84)).data.toList (by rw [data_length]; omega)
  have s4 := sumAt_small 70 (three 70 (a.data.toList.count 70) (a.data.toList.count 46) 84 (a.data.toList.count 84)).data.toList (by rw [data_length]; omega)
  generalize sumAt 84 a.data.toList 0 = z1 at *
  generalize sumAt 70 a.data.toList 0 = z2 at *
  generalize sumAt 84 (three 70 (a.data.toList.count 70) (a.data.toList.count 46) 84 (a.data.toList.count 84)).data.toList 0 = z3 at *
  generalize sumAt 70 (three 70 (a.data.toList.count 70) (a.data.toList.count 46) 84 (a.data.toList.count 84)).data.toList 0 = z4 at *
  congr 1
  clear hcs hl h h1 h12 ht
  unfold wrap64
  omega
theorem way_l0 (a : ByteArray) (hs : a.size ≤ 12) : ∀ (d i k : Nat) (s t f : Int), i + d = a.size → d < k → -(1000 * i : Int) ≤ s → s ≤ 1000 * i → 0 ≤ t → t ≤ 12 + i → 0 ≤ f → f ≤ i → impl_way.l0 k a s t f (a.size : Int) (i : Int) = some (s + wayAt (a.data.toList.drop i) t f i) := by
  intro d
  induction d with
  | zero =>
    intro i k s t f hi hk _ _ _ _ _ _
    obtain ⟨k, rfl⟩ : ∃ m, k = m + 1 := ⟨k - 1, by omega⟩
    simp only [impl_way.l0]
    rw [if_neg (by omega), List.drop_of_length_le (by rw [data_length]; omega)]
    simp [wayAt]
  | succ d ih =>
    intro i k s t f hi hk s0 s1 t0 t1 f0 f1
    obtain ⟨k, rfl⟩ : ∃ m, k = m + 1 := ⟨k - 1, by omega⟩
    obtain ⟨x, hd, hb⟩ := bt_eq a i (by omega)
    simp only [impl_way.l0]
    rw [if_pos (by omega), if_pos (by omega), if_pos (by omega), hb, w64_succ (n := a.size) (by omega) (by omega), w64 (x := t - i) (by omega) (by omega), w64 (x := (i : Int) - f) (by omega) (by omega), w64 (x := s + (t - i)) (by omega) (by omega), w64 (x := s + ((i : Int) - f)) (by omega) (by omega), w64 (x := t + 1) (by omega) (by omega), w64 (x := f + 1) (by omega) (by omega)]
    rw [ih (i + 1) k (s + (t - i)) (t + 1) f (by omega) (by omega) (by omega) (by omega) (by omega) (by omega) (by omega) (by omega), ih (i + 1) k (s + ((i : Int) - f)) t (f + 1) (by omega) (by omega) (by omega) (by omega) (by omega) (by omega) (by omega) (by omega), ih (i + 1) k s t f (by omega) (by omega) (by omega) (by omega) (by omega) (by omega) (by omega) (by omega), hd, wayAt]
    simp only [is84, is70]
    by_cases h1 : x = 84
    · rw [if_pos h1, if_pos h1, Int.add_assoc]
    · rw [if_neg h1, if_neg h1]
      by_cases h2 : x = 70
      · rw [if_pos h2, if_pos h2, Int.add_assoc]
      · rw [if_neg h2, if_neg h2]
theorem impl_way_eq (a : ByteArray) (h : isLine 12 a = true) (k : Nat) (hk : 20 ≤ k) : impl_way.f k a = some (wayOf a.data.toList) := by
  obtain ⟨h1, h12, hl⟩ := isLine_size h
  unfold impl_way.f
  rw [impl_count_eq]
  simp only [Option.bind_some]
  have hc : a.data.toList.count 84 ≤ a.size := by rw [← data_length]; exact List.count_le_length
  rw [w64 (by omega) (by omega)]
  have hw := way_l0 a h12 a.size 0 k 0 ((a.size : Int) - (a.data.toList.count 84 : Nat)) 0 (by omega) (by omega) (by omega) (by omega) (by omega) (by omega) (by omega) (by omega)
  rw [List.drop_zero, Int.zero_add] at hw
  rw [show impl_way.l0 k a 0 ((a.size : Int) - (a.data.toList.count 84 : Nat)) 0 (a.size : Int) 0 = _ from hw]
  unfold wayOf
  rw [data_length]
end Go.Proofs.YtoaajkpcefgofaaDoor.XA
