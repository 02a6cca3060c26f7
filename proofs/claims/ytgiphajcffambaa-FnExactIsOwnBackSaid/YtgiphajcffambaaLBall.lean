/- Plain facts on lines, moves and searches, for the statement at hand: each theorem names its conditions. -/
import Derived.Test.YtgiphajcffambaaWWords
import Derived.Lib.SlTrimSet
import Derived.Lib.Strings
import Derived.Test.YtgiphajcffambaaXW
import Derived.Test.YtgiphajcffambaaXB0
import Derived.Test.YtgiphajcffambaaXB10
import Derived.Test.YtgiphajcffambaaXB12
import Derived.Test.YtgiphajcffambaaXB13
import Derived.Test.YtgiphajcffambaaXB14
import Derived.Test.YtgiphajcffambaaXB15
import Derived.Test.YtgiphajcffambaaXB16
import Derived.Test.YtgiphajcffambaaXB2
import Derived.Test.YtgiphajcffambaaXB3
import Derived.Test.YtgiphajcffambaaXB4
import Derived.Test.YtgiphajcffambaaXB5
import Derived.Test.YtgiphajcffambaaXB6
import Derived.Test.YtgiphajcffambaaXB7
import Derived.Test.YtgiphajcffambaaXB8
import Derived.Test.YtgiphajcffambaaXB9
namespace Go.Proofs.YtgiphajcffambaaB
set_option linter.unusedVariables false
set_option linter.unusedSimpArgs false
open Go Go.RowKit Go.Proofs.YtgiphajcffambaaW.PrintWords

theorem w64 {x : Int} (h0 : -9223372036854775808 ≤ x) (h1 : x ≤ 9223372036854775807) : wrap64 x = x := by
  unfold wrap64
  omega
theorem w64_succ {i n : Nat} (h : i < n) (hn : n ≤ 140737488351232) : wrap64 ((i : Int) + 1) = ((i + 1 : Nat) : Int) := by
  unfold wrap64
  omega
theorem bt_eq (a : ByteArray) (i : Nat) (h : i < a.size) : ∃ c : UInt8, a.data.toList.drop i = c :: a.data.toList.drop (i + 1) ∧ bt a (i : Int) = (c.toNat : Int) := by
  have hl : i < a.data.toList.length := by rw [data_length]; exact h
  refine ⟨a.data.toList[i], List.drop_eq_getElem_cons hl, ?_⟩
  unfold bt
  rw [dif_pos (show (i : Int).toNat < a.size by rw [Int.toNat_natCast]; exact h)]
  rfl
theorem byte_is (c : UInt8) (n : Nat) (hn : n < 256) : ((c.toNat : Int) = (n : Int)) ↔ c = UInt8.ofNat n := by
  constructor
  · intro h
    have h2 : c.toNat = n := by omega
    rw [← h2]
    simp
  · rintro rfl
    rw [UInt8.toNat_ofNat']
    omega
theorem is84 (c : UInt8) : ((c.toNat : Int) = 84) ↔ c = 84 := byte_is c 84 (by decide)
theorem is70 (c : UInt8) : ((c.toNat : Int) = 70) ↔ c = 70 := byte_is c 70 (by decide)
theorem is46 (c : UInt8) : ((c.toNat : Int) = 46) ↔ c = 46 := byte_is c 46 (by decide)
theorem is47 (c : UInt8) : ((c.toNat : Int) = 47) ↔ c = 47 := byte_is c 47 (by decide)
theorem byte_inj {c d : UInt8} : ((c.toNat : Int) = (d.toNat : Int)) ↔ c = d := by
  constructor
  · intro h
    exact UInt8.toNat_inj.1 (by omega)
  · rintro rfl
    rfl
/-- The signs of lines, and of words. -/
def sgn (c : UInt8) : Bool := c == 84 || c == 70 || c == 46
def tf (c : UInt8) : Bool := c == 84 || c == 70
theorem dropWhile_head {p : UInt8 → Bool} : ∀ (l : List UInt8) {c : UInt8} {t : List UInt8}, l.dropWhile p = c :: t → p c = false
  | [], _, _, h => by simp at h
  | x :: l, c, t, h => by
    rw [List.dropWhile_cons] at h
    split at h
    · exact dropWhile_head l h
    · rename_i hx
      cases h
      simpa using hx
theorem dropWhile_nil {p : UInt8 → Bool} : ∀ {l : List UInt8}, l.dropWhile p = [] ↔ ∀ x, x ∈ l → p x = true
  | [] => by simp
  | c :: l => by
    rw [List.dropWhile_cons]
    have ih := dropWhile_nil (p := p) (l := l)
    by_cases h : p c = true
    · rw [if_pos h, ih]
      simp [h]
    · rw [if_neg h]
      simp [h]
theorem trim_nil (l cs : List UInt8) : (Lib.trimS l cs = []) ↔ (l.all (cs.contains ·) = true) := by
  unfold Lib.trimS Lib.trimLeftS Lib.trimRightS
  rw [dropWhile_nil, List.all_eq_true]
  constructor
  · intro h
    cases hd : l.reverse.dropWhile (cs.contains ·) with
    | nil =>
      rw [dropWhile_nil] at hd
      exact fun x hx => hd x (List.mem_reverse.2 hx)
    | cons c t =>
      have h1 := h c (by rw [hd]; simp)
      rw [dropWhile_head _ hd] at h1
      cases h1
  · intro h x hx
    rw [List.mem_reverse] at hx
    exact h x (List.mem_reverse.1 ((List.dropWhile_sublist _).subset hx))
theorem trim_sgn (l : List UInt8) : ((⟨(Lib.trimS l [46, 70, 84]).toArray⟩ : ByteArray).toList == ([] : List UInt8)) = l.all sgn := by
  rw [Lib.toList_data, Bool.eq_iff_iff, beq_iff_eq]
  show Lib.trimS l [46, 70, 84] = [] ↔ _
  rw [trim_nil]
  have e : ∀ c : UInt8, ([46, 70, 84] : List UInt8).contains c = sgn c := by
    intro c
    unfold sgn
    by_cases h1 : c = 46
    · subst h1; decide
    by_cases h2 : c = 70
    · subst h2; decide
    by_cases h3 : c = 84
    · subst h3; decide
    simp [h1, h2, h3]
  simp only [e]
theorem trim_tf (l : List UInt8) : ((⟨(Lib.trimS l [84, 70]).toArray⟩ : ByteArray).toList == ([] : List UInt8)) = l.all tf := by
  rw [Lib.toList_data, Bool.eq_iff_iff, beq_iff_eq]
  show Lib.trimS l [84, 70] = [] ↔ _
  rw [trim_nil]
  have e : ∀ c : UInt8, ([84, 70] : List UInt8).contains c = tf c := by
    intro c
    unfold tf
    by_cases h2 : c = 70
    · subst h2; decide
    by_cases h3 : c = 84
    · subst h3; decide
    simp [h2, h3]
  simp only [e]
def isLine (m : Nat) (a : ByteArray) : Bool := decide (1 ≤ a.size) && (decide (a.size ≤ m) && a.data.toList.all sgn)
def isWord (a : ByteArray) : Bool := decide (a.size ≤ 40) && a.data.toList.all tf
def isRing (a : ByteArray) : Bool := decide (3 ≤ a.size) && isLine 9 a
theorem isLine_size {m : Nat} {a : ByteArray} (h : isLine m a = true) : 1 ≤ a.size ∧ a.size ≤ m ∧ a.data.toList.all sgn = true := by
  unfold isLine at h
  simp only [Bool.and_eq_true, decide_eq_true_eq] at h
  exact h
theorem less_not : ∀ (x y : List UInt8), Op.bytesLess x y = true → Op.bytesLess y x = false ∧ x ≠ y
  | x, [], h => by cases x <;> simp [Op.bytesLess] at h
  | [], _ :: _, _ => ⟨rfl, by simp⟩
  | a :: x, b :: y, h => by
    simp only [Op.bytesLess, Bool.or_eq_true, Bool.and_eq_true, decide_eq_true_eq, beq_iff_eq] at h
    rcases h with h | ⟨rfl, h⟩
    · refine ⟨?_, fun e => ?_⟩
      · simp only [Op.bytesLess, Bool.or_eq_false_iff, Bool.and_eq_false_iff, decide_eq_false_iff_not, beq_eq_false_iff_ne]
        have h2 := UInt8.lt_iff_toNat_lt.1 h
        exact ⟨fun h3 => by have := UInt8.lt_iff_toNat_lt.1 h3; omega, .inl (fun e => by subst e; omega)⟩
      · cases e
        have h2 := UInt8.lt_iff_toNat_lt.1 h
        omega
    · obtain ⟨h1, h2⟩ := less_not x y h
      refine ⟨?_, fun e => by cases e; exact h2 rfl⟩
      simp only [Op.bytesLess, h1, Bool.and_false, Bool.or_false, decide_eq_false_iff_not]
      exact fun h3 => by have := UInt8.lt_iff_toNat_lt.1 h3; omega
theorem less_total : ∀ (x y : List UInt8), Op.bytesLess x y = false → Op.bytesLess y x = true ∨ x = y
  | [], [], _ => .inr rfl
  | _ :: _, [], _ => .inl rfl
  | [], _ :: _, h => by simp [Op.bytesLess] at h
  | a :: x, b :: y, h => by
    simp only [Op.bytesLess, Bool.or_eq_false_iff, Bool.and_eq_false_iff, decide_eq_false_iff_not, beq_eq_false_iff_ne] at h
    obtain ⟨h1, h2⟩ := h
    by_cases e : a = b
    · subst e
      rcases h2 with h2 | h2
      · exact absurd rfl h2
      · rcases less_total x y h2 with h3 | h3
        · exact .inl (by simp [Op.bytesLess, h3])
        · exact .inr (by rw [h3])
    · refine .inl ?_
      have h3 : b < a := by
        rw [UInt8.lt_iff_toNat_lt] at h1 ⊢
        have h4 : a.toNat ≠ b.toNat := fun h5 => e (UInt8.toNat_inj.1 h5)
        omega
      simp [Op.bytesLess, h3]
/-- A law that holds two results of two parts against each other. -/
theorem law_two {α : Type} [DecidableEq α] (x y : Option (α × Bool)) (r : α × Bool) (hx : x = some r) (hy : y = some r) :
    (x.bind fun p => (y.bind fun q => (if q.1 = p.1 then (if (q.2 != p.2) = true then (some false) else (some true)) else (some false)))) = some true := by
  subst hx; subst hy; simp
theorem law_str (x y : Option (ByteArray × Bool)) (r : ByteArray × Bool) (hx : x = some r) (hy : y = some r) :
    (x.bind fun p => (y.bind fun q => (if q.1.toList = p.1.toList then (if (q.2 != p.2) = true then (some false) else (some true)) else (some false)))) = some true := by
  subst hx; subst hy; simp
theorem law_one (x y : Option Bool) (r : Bool) (hx : x = some r) (hy : y = some r) :
    (x.bind fun p => (y.bind fun q => (if (q != p) = true then (some false) else (some true)))) = some true := by
  subst hx; subst hy; simp
end Go.Proofs.YtgiphajcffambaaB

namespace Go.Proofs.Ytgiphajcffambaa.XB
set_option linter.unusedVariables false
set_option linter.unusedSimpArgs false
open Go Go.RowKit Go.Proofs.YtgiphajcffambaaW.PrintWords Go.Proofs.YtgiphajcffambaaB

theorem l1In_eq (a b c : Int) : spec_l1In.f a b c = some (decide (b ≤ a) && decide (a ≤ c)) := by
  unfold spec_l1In.f
  by_cases h : b ≤ a <;> simp [h]
theorem within_eq (a b c : Int) : impl_within.f a b c = some (decide (b ≤ a) && decide (a ≤ c)) := by
  unfold impl_within.f
  by_cases h : b ≤ a <;> simp [h]
end Go.Proofs.Ytgiphajcffambaa.XB

namespace Go.Proofs.Ytgiphajcffambaa.XB
set_option linter.unusedVariables false
set_option linter.unusedSimpArgs false
open Go Go.RowKit Go.Proofs.YtgiphajcffambaaW.PrintWords Go.Proofs.YtgiphajcffambaaB

/-- the sign at a place, 0 outside -/
def sg (a : ByteArray) (i : Int) : Int := if 0 ≤ i ∧ i < (a.size : Int) then bt a i else 0
theorem impl_at_eq (a : ByteArray) (i : Int) : impl_at.f a i = some (sg a i) := by
  unfold impl_at.f sg
  by_cases h0 : i < 0
  · rw [if_pos h0, if_neg (by omega)]
  · rw [if_neg h0]
    by_cases h1 : i ≥ (a.size : Int)
    · rw [if_pos h1, if_neg (by omega)]
    · rw [if_neg h1, if_pos (by omega), if_pos (by omega), if_pos (by omega)]
theorem sg_in {a : ByteArray} {i : Int} (h0 : 0 ≤ i) (h1 : i < (a.size : Int)) : sg a i = bt a i := if_pos ⟨h0, h1⟩
theorem sg_is {a : ByteArray} {i c : Int} (h : sg a i = c) (hc : c ≠ 0) : 0 ≤ i ∧ i < (a.size : Int) ∧ bt a i = c := by
  unfold sg at h
  split at h
  · rename_i hi
    exact ⟨hi.1, hi.2, h⟩
  · exact absurd h.symm hc
end Go.Proofs.Ytgiphajcffambaa.XB

namespace Go.Proofs.Ytgiphajcffambaa.XB
set_option linter.unusedVariables false
set_option linter.unusedSimpArgs false
open Go Go.RowKit Go.Proofs.YtgiphajcffambaaW.PrintWords Go.Proofs.YtgiphajcffambaaB

def canP (a : ByteArray) (f t : Int) : Prop := 0 ≤ f ∧ f < (a.size : Int) ∧ 0 ≤ t ∧ t < (a.size : Int) ∧ bt a t = 46 ∧
  ((bt a f = 84 ∧ (t = f + 1 ∨ (t = f + 2 ∧ bt a (f + 1) = 70))) ∨ (bt a f = 70 ∧ (t = f + (-1) ∨ (t = f + (-2) ∧ bt a (f + (-1)) = 84))))
instance (a : ByteArray) (f t : Int) : Decidable (canP a f t) := by unfold canP; infer_instance
theorem liCan_eq (a : ByteArray) (hs1 : 1 ≤ a.size) (hs : a.size ≤ 1000) (f t : Int) (k : Nat) (hk : 1 ≤ k) : spec_liCan.f k a f t = some (decide (canP a f t)) := by
  obtain ⟨k, rfl⟩ : ∃ m, k = m + 1 := ⟨k - 1, by omega⟩
  unfold spec_liCan.f
  have e : wrap64 ((a.size : Int) - 1) = (a.size : Int) - 1 := w64 (by omega) (by omega)
  rw [e, l1In_eq, l1In_eq]
  simp only [Option.bind_some, spec_liCan.j0]
  by_cases hf : 0 ≤ f ∧ f ≤ (a.size : Int) - 1
  case neg =>
    rw [if_neg (by simp; omega), if_pos trivial, decide_eq_false (fun h => hf ⟨h.1, by have := h.2.1; omega⟩)]
  rw [if_pos (by simp; omega)]
  by_cases ht : 0 ≤ t ∧ t ≤ (a.size : Int) - 1
  case neg =>
    rw [if_neg (by simp; omega), if_pos trivial, decide_eq_false (fun h => ht ⟨h.2.2.1, by have := h.2.2.2.1; omega⟩)]
  rw [if_pos (by simp; omega), if_pos ht.1, if_pos (show t < (a.size : Int) by omega)]
  by_cases h46 : bt a t = 46
  case neg =>
    rw [if_pos (by simpa using h46), decide_eq_false (fun h => h46 h.2.2.2.2.1)]
  have f1 : f < (a.size : Int) := by omega
  have t1 : t < (a.size : Int) := by omega
  rw [show (bt a t != 46) = false from by simp [h46], if_neg (by decide), if_pos hf.1, if_pos f1, w64 (x := f + 1) (by omega) (by omega), w64 (x := f + 2) (by omega) (by omega), w64 (x := f + (-1)) (by omega) (by omega), w64 (x := f + (-2)) (by omega) (by omega)]
  by_cases c84 : bt a f = 84
  · rw [if_pos c84]
    by_cases q1 : t = f + 1
    · rw [if_pos q1, decide_eq_true (show canP a f t from ⟨hf.1, f1, ht.1, t1, h46, .inl ⟨c84, .inl q1⟩⟩)]
    · rw [if_neg q1]
      by_cases q2 : t = f + 2
      · rw [if_pos q2, if_pos (by omega), if_pos (by omega)]
        by_cases q3 : bt a (f + 1) = 70
        · rw [decide_eq_true (show canP a f t from ⟨hf.1, f1, ht.1, t1, h46, .inl ⟨c84, .inr ⟨q2, q3⟩⟩⟩), q3]
          rfl
        · rw [decide_eq_false (fun h => ?_), show (bt a (f + 1) == 70) = false from by simp [q3]]
          rcases h.2.2.2.2.2 with ⟨_, h | h⟩ | ⟨h, _⟩
          · exact q1 h
          · exact q3 h.2
          · omega
      · rw [if_neg q2, decide_eq_false (fun h => ?_)]
        rcases h.2.2.2.2.2 with ⟨_, h | h⟩ | ⟨h, _⟩
        · exact q1 h
        · exact q2 h.1
        · omega
  · rw [if_neg c84]
    by_cases c70 : bt a f = 70
    · rw [if_pos c70]
      by_cases q1 : t = f + (-1)
      · rw [if_pos q1, decide_eq_true (show canP a f t from ⟨hf.1, f1, ht.1, t1, h46, .inr ⟨c70, .inl q1⟩⟩)]
      · rw [if_neg q1]
        by_cases q2 : t = f + (-2)
        · rw [if_pos q2, if_pos (by omega), if_pos (by omega)]
          by_cases q3 : bt a (f + (-1)) = 84
          · rw [decide_eq_true (show canP a f t from ⟨hf.1, f1, ht.1, t1, h46, .inr ⟨c70, .inr ⟨q2, q3⟩⟩⟩), q3]
            rfl
          · rw [decide_eq_false (fun h => ?_), show (bt a (f + (-1)) == 84) = false from by simp [q3]]
            rcases h.2.2.2.2.2 with ⟨h, _⟩ | ⟨_, h | h⟩
            · exact c84 h
            · exact q1 h
            · exact q3 h.2
        · rw [if_neg q2, decide_eq_false (fun h => ?_)]
          rcases h.2.2.2.2.2 with ⟨h, _⟩ | ⟨_, h | h⟩
          · exact c84 h
          · exact q1 h
          · exact q2 h.1
    · rw [if_neg c70, decide_eq_false (fun h => ?_)]
      rcases h.2.2.2.2.2 with ⟨h, _⟩ | ⟨h, _⟩
      · exact c84 h
      · exact c70 h
theorem impl_can_eq (a : ByteArray) (hs1 : 1 ≤ a.size) (hs : a.size ≤ 1000) (f t : Int) : impl_can.f a f t = some (decide (canP a f t)) := by
  unfold impl_can.f
  have e : wrap64 ((a.size : Int) - 1) = (a.size : Int) - 1 := w64 (by omega) (by omega)
  rw [e, within_eq]
  simp only [Option.bind_some]
  by_cases hf : 0 ≤ f ∧ f ≤ (a.size : Int) - 1
  case neg =>
    rw [if_neg (by simp; omega), decide_eq_false (fun h => hf ⟨h.1, by have := h.2.1; omega⟩)]
  rw [if_pos (by simp; omega)]
  have f1 : f < (a.size : Int) := by omega
  unfold impl_goal.f
  rw [if_pos hf.1, if_pos f1]
  unfold impl_stepOf.f impl_other.f
  by_cases c84 : bt a f = 84
  · rw [if_pos c84]
    simp only [Option.bind_some, impl_at_eq]
    rw [if_neg (by decide), w64 (x := f + 1) (by omega) (by omega), w64 (x := 2 * 1) (by omega) (by omega), w64 (x := f + 2 * 1) (by omega) (by omega), if_pos c84]
    simp only [Option.bind_some]
    by_cases q1 : sg a (f + 1) = 46
    · obtain ⟨g0, g1, g2⟩ := sg_is q1 (by decide)
      rw [if_pos q1]
      simp only [Option.bind_some, if_true]
      by_cases q2 : t = f + 1
      · subst q2
        rw [decide_eq_true (show canP a f (f + 1) from ⟨hf.1, f1, g0, g1, g2, .inl ⟨c84, .inl rfl⟩⟩), beq_self_eq_true]
      · rw [decide_eq_false (fun h => ?_), show (f + 1 == t) = false from by simp; omega]
        rcases h.2.2.2.2.2 with ⟨_, h | h⟩ | ⟨h, _⟩ <;> omega
    · rw [if_neg q1]
      by_cases q2 : sg a (f + 1) = 70
      · obtain ⟨g0, g1, g2⟩ := sg_is q2 (by decide)
        rw [if_pos q2]
        by_cases q3 : sg a (f + 2 * 1) = 46
        · obtain ⟨m0, m1, m2⟩ := sg_is q3 (by decide)
          rw [if_pos q3]
          simp only [Option.bind_some, if_true]
          by_cases q4 : t = f + 2 * 1
          · subst q4
            rw [decide_eq_true (show canP a f (f + 2 * 1) from ⟨hf.1, f1, m0, m1, m2, .inl ⟨c84, .inr ⟨rfl, g2⟩⟩⟩), beq_self_eq_true]
          · rw [decide_eq_false (fun h => ?_), show (f + 2 * 1 == t) = false from by simp; omega]
            have h5 := h.2.2.2.2.1
            rcases h.2.2.2.2.2 with ⟨_, h | h⟩ | ⟨h, _⟩
            · subst h; omega
            · omega
            · omega
        · rw [if_neg q3]
          simp only [Option.bind_some]
          rw [if_neg (by decide), decide_eq_false (fun h => ?_)]
          have h3 := h.2.2.1
          have h4 := h.2.2.2.1
          have h5 := h.2.2.2.2.1
          rcases h.2.2.2.2.2 with ⟨_, h | h⟩ | ⟨h, _⟩
          · subst h; omega
          · have h6 := h.1
            subst h6
            exact q3 ((sg_in h3 h4).trans h5)
          · omega
      · rw [if_neg q2]
        simp only [Option.bind_some]
        rw [if_neg (by decide), decide_eq_false (fun h => ?_)]
        have h3 := h.2.2.1
        have h4 := h.2.2.2.1
        have h5 := h.2.2.2.2.1
        rcases h.2.2.2.2.2 with ⟨_, h | h⟩ | ⟨h, _⟩
        · subst h
          exact q1 ((sg_in h3 h4).trans h5)
        · exact q2 ((sg_in (by omega) (by omega)).trans h.2)
        · omega
  · rw [if_neg c84]
    by_cases c70 : bt a f = 70
    · rw [if_pos c70]
      simp only [Option.bind_some, impl_at_eq]
      rw [if_neg (by decide), w64 (x := f + -1) (by omega) (by omega), w64 (x := 2 * -1) (by omega) (by omega), w64 (x := f + 2 * -1) (by omega) (by omega), if_neg c84, if_pos c70]
      simp only [Option.bind_some]
      by_cases q1 : sg a (f + -1) = 46
      · obtain ⟨g0, g1, g2⟩ := sg_is q1 (by decide)
        rw [if_pos q1]
        simp only [Option.bind_some, if_true]
        by_cases q2 : t = f + -1
        · subst q2
          rw [decide_eq_true (show canP a f (f + -1) from ⟨hf.1, f1, g0, g1, g2, .inr ⟨c70, .inl rfl⟩⟩), beq_self_eq_true]
        · rw [decide_eq_false (fun h => ?_), show (f + -1 == t) = false from by simp; omega]
          rcases h.2.2.2.2.2 with ⟨h, _⟩ | ⟨_, h | h⟩ <;> omega
      · rw [if_neg q1]
        by_cases q2 : sg a (f + -1) = 84
        · obtain ⟨g0, g1, g2⟩ := sg_is q2 (by decide)
          rw [if_pos q2]
          by_cases q3 : sg a (f + 2 * -1) = 46
          · obtain ⟨m0, m1, m2⟩ := sg_is q3 (by decide)
            rw [if_pos q3]
            simp only [Option.bind_some, if_true]
            by_cases q4 : t = f + 2 * -1
            · subst q4
              rw [decide_eq_true (show canP a f (f + 2 * -1) from ⟨hf.1, f1, m0, m1, m2, .inr ⟨c70, .inr ⟨rfl, g2⟩⟩⟩), beq_self_eq_true]
            · rw [decide_eq_false (fun h => ?_), show (f + 2 * -1 == t) = false from by simp; omega]
              have h5 := h.2.2.2.2.1
              rcases h.2.2.2.2.2 with ⟨h, _⟩ | ⟨_, h | h⟩
              · omega
              · subst h; omega
              · omega
          · rw [if_neg q3]
            simp only [Option.bind_some]
            rw [if_neg (by decide), decide_eq_false (fun h => ?_)]
            have h3 := h.2.2.1
            have h4 := h.2.2.2.1
            have h5 := h.2.2.2.2.1
            rcases h.2.2.2.2.2 with ⟨h, _⟩ | ⟨_, h | h⟩
            · omega
            · subst h; omega
            · have h6 := h.1
              subst h6
              exact q3 ((sg_in h3 h4).trans h5)
        · rw [if_neg q2]
          simp only [Option.bind_some]
          rw [if_neg (by decide), decide_eq_false (fun h => ?_)]
          have h3 := h.2.2.1
          have h4 := h.2.2.2.1
          have h5 := h.2.2.2.2.1
          rcases h.2.2.2.2.2 with ⟨h, _⟩ | ⟨_, h | h⟩
          · omega
          · subst h
            exact q1 ((sg_in h3 h4).trans h5)
          · exact q2 ((sg_in (by omega) (by omega)).trans h.2)
    · rw [if_neg c70]
      simp only [Option.bind_some]
      rw [if_pos trivial]
      simp only [Option.bind_some]
      rw [if_neg (by decide), decide_eq_false (fun h => ?_)]
      rcases h.2.2.2.2.2 with ⟨h, _⟩ | ⟨h, _⟩
      · exact c84 h
      · exact c70 h
end Go.Proofs.Ytgiphajcffambaa.XB

namespace Go.Proofs.Ytgiphajcffambaa.XB
set_option linter.unusedVariables false
set_option linter.unusedSimpArgs false
open Go Go.RowKit Go.Proofs.YtgiphajcffambaaW.PrintWords Go.Proofs.YtgiphajcffambaaB

theorem ba_eq {x y : ByteArray} (h : x.data.toList = y.data.toList) : x = y := by rw [← Lib.mk_data x, ← Lib.mk_data y, h]
theorem list_extract (a : ByteArray) (i j : Nat) : (a.extract i j).data.toList = (a.data.toList.drop i).take (j - i) := by
  simp
theorem list_append (x y : ByteArray) : (x ++ y).data.toList = x.data.toList ++ y.data.toList := by simp
/-- the text with the sign of one place moved to another -/
def mv (a : ByteArray) (f t : Int) : ByteArray := ⟨((a.data.toList.set t.toNat (a.data.toList.getD f.toNat 0)).set f.toNat 46).toArray⟩
theorem mv_size (a : ByteArray) (f t : Int) : (mv a f t).size = a.size := by
  unfold mv ByteArray.size
  simp
theorem liPut_eq (a : ByteArray) (hs : a.size ≤ 1000) (i : Nat) (hi : i < a.size) (c : UInt8) : spec_liPut.f a (i : Int) ⟨#[c]⟩ = some ⟨(a.data.toList.set i c).toArray⟩ := by
  unfold spec_liPut.f
  rw [w64_succ (n := a.size) hi (by omega), Int.toNat_natCast, Int.toNat_natCast]
  have s1 : (a.extract 0 i).size = i := by rw [ByteArray.size_extract]; omega
  have s2 : (⟨#[c]⟩ : ByteArray).size = 1 := rfl
  have s3 : (a.extract (i + 1) a.size).size = a.size - (i + 1) := by rw [ByteArray.size_extract]; omega
  rw [if_pos (by omega), if_pos (by omega), if_pos (by rw [s1, s2]; omega), if_pos (by omega), if_pos (by omega), if_pos (by rw [ByteArray.size_append, s1, s2, s3]; omega)]
  congr 1
  apply ba_eq
  have hl : i < a.data.toList.length := by rw [data_length]; exact hi
  rw [list_append, list_append, list_extract, list_extract, List.set_eq_take_append_cons_drop, if_pos hl, List.take_of_length_le (l := List.drop (i + 1) a.data.toList) (by rw [List.length_drop, data_length]; exact Nat.le_refl _)]
  simp
theorem extract_one (a : ByteArray) (i : Nat) (hi : i < a.size) : a.extract i (i + 1) = ⟨#[a.data.toList.getD i 0]⟩ := by
  apply ba_eq
  have hl : i < a.data.toList.length := by rw [data_length]; exact hi
  rw [list_extract, List.drop_eq_getElem_cons hl, show i + 1 - i = 1 from by omega, List.getD_eq_getElem?_getD, List.getElem?_eq_getElem hl]
  rfl
theorem liMake_eq (a : ByteArray) (hs : a.size ≤ 1000) (f t : Int) (f0 : 0 ≤ f) (f1 : f < (a.size : Int)) (t0 : 0 ≤ t) (t1 : t < (a.size : Int)) (ne : f ≠ t) : spec_liMake.f a f t = some (mv a f t) := by
  obtain ⟨i, rfl⟩ : ∃ i : Nat, f = (i : Int) := ⟨f.toNat, by omega⟩
  obtain ⟨j, rfl⟩ : ∃ j : Nat, t = (j : Int) := ⟨t.toNat, by omega⟩
  unfold spec_liMake.f mv
  rw [w64_succ (n := a.size) (by omega) (by omega), Int.toNat_natCast, Int.toNat_natCast, Int.toNat_natCast, if_pos (by omega), if_pos (by omega), if_pos (by omega), liPut_eq a hs i (by omega) 46, extract_one a i (by omega)]
  simp only [Option.bind_some]
  have e : (⟨(a.data.toList.set i 46).toArray⟩ : ByteArray).size = a.size := by unfold ByteArray.size; simp
  rw [liPut_eq _ (by omega) j (by omega)]
  simp only [Option.bind_some]
  congr 2
  rw [List.set_comm _ _ (show j ≠ i from by omega)]
theorem impl_made_eq (a : ByteArray) (hs : a.size ≤ 1000) (f t : Int) (f0 : 0 ≤ f) (f1 : f < (a.size : Int)) (t0 : 0 ≤ t) (t1 : t < (a.size : Int)) (ne : f ≠ t) : impl_made.f a f t = some (mv a f t) :=
  if_pos ⟨by omega, f0, f1, t0, t1, ne⟩
end Go.Proofs.Ytgiphajcffambaa.XB

namespace Go.Proofs.Ytgiphajcffambaa.XB
set_option linter.unusedVariables false
set_option linter.unusedSimpArgs false
open Go Go.RowKit Go.Proofs.YtgiphajcffambaaW.PrintWords Go.Proofs.YtgiphajcffambaaB

instance : DecidableEq S35 := fun x y => decidable_of_iff (x.f0 = y.f0 ∧ x.f1 = y.f1) (by obtain ⟨a, b⟩ := x; obtain ⟨c, d⟩ := y; simp)
/-- all moves from f to a place from j on, e places, that p lets in -/
def collect (p : Int → Bool) (f : Int) : Nat → Nat → List S35
  | 0, _ => []
  | e + 1, j => (if p (j : Int) = true then [⟨f, (j : Int)⟩] else []) ++ collect p f e (j + 1)
theorem collect_length (p : Int → Bool) (f : Int) : ∀ (e j : Nat), (collect p f e j).length ≤ e
  | 0, _ => by simp [collect]
  | e + 1, j => by
    have h := collect_length p f e (j + 1)
    rw [collect, List.length_append]
    split
    · simp; omega
    · simp; omega
theorem collect_none (p : Int → Bool) (f : Int) : ∀ (e j : Nat), (∀ t : Nat, j ≤ t → t < j + e → p (t : Int) = false) → collect p f e j = []
  | 0, _, _ => rfl
  | e + 1, j, h => by
    rw [collect, h j (by omega) (by omega), collect_none p f e (j + 1) (fun t h1 h2 => h t (by omega) (by omega))]
    rfl
theorem collect_split (p : Int → Bool) (f : Int) : ∀ (e1 e2 j : Nat), collect p f (e1 + e2) j = collect p f e1 j ++ collect p f e2 (j + e1)
  | 0, e2, j => by rw [Nat.zero_add]; rfl
  | e1 + 1, e2, j => by
    rw [show e1 + 1 + e2 = (e1 + e2) + 1 from by omega, collect, collect, collect_split p f e1 e2 (j + 1), List.append_assoc, show j + 1 + e1 = j + (e1 + 1) from by omega]
theorem collect_one (p : Int → Bool) (f : Int) (e j g : Nat) (h1 : j ≤ g) (h2 : g < j + e) (h : ∀ t : Nat, j ≤ t → t < j + e → (p (t : Int) = true ↔ t = g)) : collect p f e j = [⟨f, (g : Int)⟩] := by
  obtain ⟨a, rfl⟩ : ∃ a, g = j + a := ⟨g - j, by omega⟩
  obtain ⟨b, rfl⟩ : ∃ b, e = a + (1 + b) := ⟨e - a - 1, by omega⟩
  have no : ∀ t : Nat, j ≤ t → t < j + (a + (1 + b)) → t ≠ j + a → p (t : Int) = false := fun t x y z => by
    cases hp : p (t : Int) with
    | false => rfl
    | true => exact absurd ((h t x y).1 hp) z
  rw [collect_split, collect_split, collect_none p f a j (fun t x y => no t x (by omega) (by omega)), collect_none p f b (j + a + 1) (fun t x y => no t (by omega) (by omega) (by omega))]
  simp only [collect, (h (j + a) (by omega) (by omega)).2 rfl, if_true, List.nil_append, List.append_nil]
theorem collect_mem (p : Int → Bool) (f : Int) (m : S35) : ∀ (e j : Nat), m ∈ collect p f e j ↔ (m.f0 = f ∧ p m.f1 = true ∧ (j : Int) ≤ m.f1 ∧ m.f1 < (j : Int) + e)
  | 0, j => by simp [collect]
  | e + 1, j => by
    rw [collect, List.mem_append, collect_mem p f m e (j + 1)]
    obtain ⟨x, y⟩ := m
    simp only
    constructor
    · rintro (h | h)
      · split at h
        · rename_i hp
          simp only [List.mem_singleton, S35.mk.injEq] at h
          obtain ⟨rfl, rfl⟩ := h
          exact ⟨rfl, hp, by omega, by omega⟩
        · cases h
      · exact ⟨h.1, h.2.1, by omega, by omega⟩
    · rintro ⟨rfl, hp, h1, h2⟩
      by_cases e : y = (j : Int)
      · subst e
        rw [if_pos hp]
        exact .inl (by simp)
      · exact .inr ⟨rfl, hp, by omega, by omega⟩
/-- place after place -/
def each (g : Nat → List S35) : Nat → Nat → List S35
  | 0, _ => []
  | d + 1, i => g i ++ each g d (i + 1)
theorem each_length (g : Nat → List S35) (c : Nat) (h : ∀ i, (g i).length ≤ c) : ∀ (d i : Nat), (each g d i).length ≤ d * c
  | 0, _ => by simp [each]
  | d + 1, i => by
    have h1 := each_length g c h d (i + 1)
    have h2 := h i
    rw [each, List.length_append, Nat.add_mul]
    omega
theorem each_congr (g g' : Nat → List S35) : ∀ (d i : Nat), (∀ j, i ≤ j → j < i + d → g j = g' j) → each g d i = each g' d i
  | 0, _, _ => rfl
  | d + 1, i, h => by rw [each, each, h i (by omega) (by omega), each_congr g g' d (i + 1) (fun j h1 h2 => h j (by omega) (by omega))]
theorem each_mem (g : Nat → List S35) (m : S35) : ∀ (d i : Nat), m ∈ each g d i ↔ ∃ j, i ≤ j ∧ j < i + d ∧ m ∈ g j
  | 0, i => by simp [each]; omega
  | d + 1, i => by
    rw [each, List.mem_append, each_mem g m d (i + 1)]
    constructor
    · rintro (h | ⟨j, h1, h2, h3⟩)
      · exact ⟨i, by omega, by omega, h⟩
      · exact ⟨j, by omega, by omega, h3⟩
    · rintro ⟨j, h1, h2, h3⟩
      by_cases e : j = i
      · subst e; exact .inl h3
      · exact .inr ⟨j, by omega, by omega, h3⟩
theorem rd_drop (l : List S35) (i : Nat) (hi : i < l.length) : l.drop i = rd_T35 l (i : Int) :: l.drop (i + 1) := by
  rw [List.drop_eq_getElem_cons hi]
  unfold rd_T35
  rw [Int.toNat_natCast, List.getD_eq_getElem?_getD, List.getElem?_eq_getElem hi]
  rfl
end Go.Proofs.Ytgiphajcffambaa.XB

namespace Go.Proofs.Ytgiphajcffambaa.XB
set_option linter.unusedVariables false
set_option linter.unusedSimpArgs false
open Go Go.RowKit Go.Proofs.YtgiphajcffambaaW.PrintWords Go.Proofs.YtgiphajcffambaaB

theorem toMoveS_l0 (l : List S37) (hs : l.length ≤ 10000000) : ∀ (d i : Nat) (acc : List S35), acc.length = l.length → i + d = l.length → ∃ r : List S35, r.length = l.length ∧ ∀ k, d < k → laws_toMoveS.l0 k l acc (i : Int) = some r := by
  intro d
  induction d with
  | zero =>
    intro i acc ha hi
    refine ⟨acc, ha, fun k hk => ?_⟩
    obtain ⟨k, rfl⟩ : ∃ m, k = m + 1 := ⟨k - 1, by omega⟩
    simp only [laws_toMoveS.l0]
    rw [if_neg (by omega)]
  | succ d ih =>
    intro i acc ha hi
    obtain ⟨r, hr, h⟩ := ih (i + 1) (acc.set i ⟨(rd_T37 l (i : Int)).f0, (rd_T37 l (i : Int)).f1⟩) (by rw [List.length_set]; exact ha) (by omega)
    refine ⟨r, hr, fun k hk => ?_⟩
    obtain ⟨k, rfl⟩ : ∃ m, k = m + 1 := ⟨k - 1, by omega⟩
    simp only [laws_toMoveS.l0]
    rw [if_pos (by omega), if_pos (by omega), show laws_toMove.f (rd_T37 l (i : Int)).f0 (rd_T37 l (i : Int)).f1 = some ((rd_T37 l (i : Int)).f0, (rd_T37 l (i : Int)).f1) from rfl]
    simp only [Option.bind_some]
    rw [if_pos (by omega), w64_succ (n := l.length) (by omega) (by omega), Int.toNat_natCast]
    exact h k (by omega)
theorem toMoveS_eq (l : List S37) (hs : l.length ≤ 10000000) : ∃ r : List S35, r.length = l.length ∧ ∀ k, l.length < k → laws_toMoveS.f k l = some r := by
  obtain ⟨r, hr, h⟩ := toMoveS_l0 l hs l.length 0 (List.replicate l.length z35) (by simp) (by omega)
  refine ⟨r, hr, fun k hk => ?_⟩
  unfold laws_toMoveS.f
  rw [if_pos (by omega), if_pos (by omega), Int.toNat_natCast]
  exact h k hk
end Go.Proofs.Ytgiphajcffambaa.XB

namespace Go.Proofs.Ytgiphajcffambaa.XB
set_option linter.unusedVariables false
set_option linter.unusedSimpArgs false
open Go Go.RowKit Go.Proofs.YtgiphajcffambaaW.PrintWords Go.Proofs.YtgiphajcffambaaB

theorem eqMoveS_l0 (l : List S35) (hs : l.length ≤ 10000000) : ∀ (d i k : Nat), i + d = l.length → d < k → laws_eqMoveS.l0 k l l (i : Int) = some true := by
  intro d
  induction d with
  | zero =>
    intro i k hi hk
    obtain ⟨k, rfl⟩ : ∃ m, k = m + 1 := ⟨k - 1, by omega⟩
    simp only [laws_eqMoveS.l0]
    rw [if_neg (by omega)]
  | succ d ih =>
    intro i k hi hk
    obtain ⟨k, rfl⟩ : ∃ m, k = m + 1 := ⟨k - 1, by omega⟩
    simp only [laws_eqMoveS.l0]
    rw [if_pos (by omega), if_pos (by omega), if_pos (by omega), w64_succ (n := l.length) (by omega) (by omega)]
    unfold laws_eqMove.f
    rw [if_pos rfl, if_pos rfl]
    simp only [Option.bind_some, if_true]
    exact ih (i + 1) k (by omega) (by omega)
theorem eqMoveS_same (l : List S35) (hs : l.length ≤ 10000000) (k : Nat) (hk : l.length < k) : laws_eqMoveS.f k l l = some true := by
  unfold laws_eqMoveS.f
  rw [if_pos rfl]
  exact eqMoveS_l0 l hs l.length 0 k (by omega) hk
end Go.Proofs.Ytgiphajcffambaa.XB

namespace Go.Proofs.Ytgiphajcffambaa.XB
set_option linter.unusedVariables false
set_option linter.unusedSimpArgs false
open Go Go.RowKit Go.Proofs.YtgiphajcffambaaW.PrintWords Go.Proofs.YtgiphajcffambaaB

/-- the text at which it stops, and how many moves were made -/
def stop (c : ByteArray → Int → Int → Bool) : List S35 → ByteArray → Nat → ByteArray × Nat
  | [], s, i => (s, i)
  | m :: l, s, i => if c s m.f0 m.f1 = true then stop c l (mv s m.f0 m.f1) (i + 1) else (s, i)
theorem stop_yes {c : ByteArray → Int → Int → Bool} {m : S35} {l : List S35} {s : ByteArray} {i : Nat} (h : c s m.f0 m.f1 = true) : stop c (m :: l) s i = stop c l (mv s m.f0 m.f1) (i + 1) := by rw [stop, if_pos h]
theorem stop_no {c : ByteArray → Int → Int → Bool} {m : S35} {l : List S35} {s : ByteArray} {i : Nat} (h : ¬ c s m.f0 m.f1 = true) : stop c (m :: l) s i = (s, i) := by rw [stop, if_neg h]
theorem stop_le (c : ByteArray → Int → Int → Bool) : ∀ (l : List S35) (s : ByteArray) (i : Nat), i ≤ (stop c l s i).2 ∧ (stop c l s i).2 ≤ i + l.length
  | [], _, i => by simp [stop]
  | m :: l, s, i => by
    unfold stop
    split
    · have := stop_le c l (mv s m.f0 m.f1) (i + 1)
      rw [List.length_cons]
      omega
    · simp
/-- what the program makes of it -/
def ends (c : ByteArray → Int → Int → Bool) (l : List S35) (s : ByteArray) (i : Nat) : ByteArray × Int := (if (stop c l s i).2 = i + l.length then (stop c l s i).1 else ⟨#[]⟩, ((stop c l s i).2 : Int))
theorem playL_eq (I : ByteArray → Prop) (c' : ByteArray → Int → Int → Option Bool) (c : ByteArray → Int → Int → Bool) (hc : ∀ s f t, I s → c' s f t = some (c s f t))
    (hm : ∀ s f t, I s → c s f t = true → impl_made.f s f t = some (mv s f t) ∧ I (mv s f t)) : ∀ (l : List S35) (s : ByteArray) (i : Nat), I s → playL c' l s i = some (ends c l s i)
  | [], s, i, _ => by simp [playL, ends, stop]
  | m :: l, s, i, hI => by
    unfold playL
    rw [hc s m.f0 m.f1 hI]
    simp only [Option.bind_some]
    by_cases h : c s m.f0 m.f1 = true
    · obtain ⟨h1, h2⟩ := hm s m.f0 m.f1 hI h
      rw [if_pos h, h1]
      simp only [Option.bind_some]
      rw [playL_eq I c' c hc hm l (mv s m.f0 m.f1) (i + 1) h2]
      unfold ends
      have e : stop c (m :: l) s i = stop c l (mv s m.f0 m.f1) (i + 1) := by rw [stop, if_pos h]
      rw [e, List.length_cons, show i + 1 + l.length = i + (l.length + 1) from by omega]
    · rw [if_neg h]
      unfold ends
      have e : stop c (m :: l) s i = (s, i) := by rw [stop, if_neg h]
      rw [e, if_neg (by rw [List.length_cons]; simp)]
theorem mv_all {a : ByteArray} (h : a.data.toList.all sgn = true) (f t : Int) (f0 : 0 ≤ f) (f1 : f < (a.size : Int)) : (mv a f t).data.toList.all sgn = true := by
  have hf : f.toNat < a.data.toList.length := by rw [data_length]; omega
  unfold mv
  rw [List.all_eq_true] at h ⊢
  intro x hx
  have hx2 : x ∈ (a.data.toList.set t.toNat (a.data.toList.getD f.toNat 0)).set f.toNat 46 := by simpa using hx
  rcases List.mem_or_eq_of_mem_set hx2 with hx3 | rfl
  · rcases List.mem_or_eq_of_mem_set hx3 with hx4 | rfl
    · exact h x hx4
    · rw [List.getD_eq_getElem?_getD, List.getElem?_eq_getElem hf]
      exact h _ (List.getElem_mem hf)
  · rfl
/-- a law on two answers, behind a list of moves that is held against itself -/
theorem toMoveS_same {l : List S37} {r : List S35} (h : ∀ k, l.length < k → laws_toMoveS.f k l = some r) (hl : r.length = l.length) (h2 : l.length ≤ 10000000) (k : Nat) (hk : l.length + 1 < k) :
    ((laws_toMoveS.f k l).bind fun t => ((laws_eqMoveS.f k r t).bind fun u => (if u = true then (some true) else (some false)))) = some true := by
  rw [h k (by omega)]
  simp only [Option.bind_some]
  rw [eqMoveS_same r (by omega) k (by omega)]
  rfl
theorem szMove_eq (l : List S37) (hl : l.length * 16 ≤ 140737488351232) : laws_szMoveS.f l 1048576 = some (if (1048576 : Int) - (l.length : Int) < 0 then -1 else (1048576 : Int) - (l.length : Int)) := by
  unfold laws_szMoveS.f
  rw [w64 (by omega) (by omega)]
  split <;> rfl
end Go.Proofs.Ytgiphajcffambaa.XB

namespace Go.Proofs.Ytgiphajcffambaa.XB
set_option linter.unusedVariables false
set_option linter.unusedSimpArgs false
open Go Go.RowKit Go.Proofs.YtgiphajcffambaaW.PrintWords Go.Proofs.YtgiphajcffambaaB

def canB (a : ByteArray) (f t : Int) : Bool := decide (canP a f t)
def lineI (a : ByteArray) : Prop := 1 ≤ a.size ∧ a.size ≤ 1000
theorem canB_in {a : ByteArray} {f t : Int} (h : canB a f t = true) : 0 ≤ f ∧ f < (a.size : Int) ∧ 0 ≤ t ∧ t < (a.size : Int) ∧ f ≠ t := by
  obtain ⟨f0, f1, t0, t1, _, hd⟩ := of_decide_eq_true h
  exact ⟨f0, f1, t0, t1, by omega⟩
theorem line_can (s : ByteArray) (f t : Int) (h : lineI s) : impl_can.f s f t = some (canB s f t) := impl_can_eq s h.1 h.2 f t
theorem line_made (s : ByteArray) (f t : Int) (h : lineI s) (hc : canB s f t = true) : impl_made.f s f t = some (mv s f t) ∧ lineI (mv s f t) := by
  obtain ⟨f0, f1, t0, t1, ne⟩ := canB_in hc
  exact ⟨impl_made_eq s h.2 f t f0 f1 t0 t1 ne, by unfold lineI; rw [mv_size]; exact h⟩
theorem liPlay_l0 (l : List S35) (hl : l.length ≤ 1000) : ∀ (d i k : Nat) (s : ByteArray), lineI s → i + d = l.length → d + 1 < k →
    spec_liPlay.l0 k s l l (l.length : Int) (i : Int) = some ((stop canB (l.drop i) s i).1, ((stop canB (l.drop i) s i).2 : Int)) := by
  intro d
  induction d with
  | zero =>
    intro i k s hI hi hk
    obtain ⟨k, rfl⟩ : ∃ m, k = m + 1 := ⟨k - 1, by omega⟩
    simp only [spec_liPlay.l0]
    rw [if_neg (by omega), List.drop_of_length_le (by omega), stop, show l.length = i from by omega]
  | succ d ih =>
    intro i k s hI hi hk
    obtain ⟨k, rfl⟩ : ∃ m, k = m + 1 := ⟨k - 1, by omega⟩
    have z1 : (i : Int) < (l.length : Int) := by omega
    have z2 : (0 : Int) ≤ (i : Int) := by omega
    simp only [spec_liPlay.l0]
    rw [if_pos z1, if_pos z2, if_pos z1, rd_drop l i (by omega), w64_succ (n := l.length) (by omega) (by omega)]
    generalize rd_T35 l (i : Int) = m
    rw [show spec_liCan.f k s m.f0 m.f1 = some (canB s m.f0 m.f1) from liCan_eq s hI.1 hI.2 m.f0 m.f1 k (by omega)]
    simp only [Option.bind_some, stop]
    by_cases h : canB s m.f0 m.f1 = true
    · obtain ⟨f0, f1, t0, t1, ne⟩ := canB_in h
      rw [if_pos h, if_pos h, liMake_eq s hI.2 m.f0 m.f1 f0 f1 t0 t1 ne]
      simp only [Option.bind_some]
      exact ih (i + 1) k _ (line_made s _ _ hI h).2 (by omega) (by omega)
    · rw [if_neg h, if_neg h]
theorem liPlay_eq (l : List S35) (hl : l.length ≤ 1000) (s : ByteArray) (hI : lineI s) (k : Nat) (hk : l.length + 1 < k) : spec_liPlay.f k s l = some ((stop canB l s 0).1, ((stop canB l s 0).2 : Int)) := by
  have h := liPlay_l0 l hl l.length 0 k s hI (by omega) hk
  rw [List.drop_zero] at h
  exact h
end Go.Proofs.Ytgiphajcffambaa.XB

namespace Go.Proofs.Ytgiphajcffambaa.XB
set_option linter.unusedVariables false
set_option linter.unusedSimpArgs false
open Go Go.RowKit Go.Proofs.YtgiphajcffambaaW.PrintWords Go.Proofs.YtgiphajcffambaaB

theorem liCount_l0 (a : ByteArray) (hs : a.size ≤ 140737488351232) (c : UInt8) : ∀ (d i k n : Nat), i + d = a.size → d < k → n ≤ i → spec_liCount.l0 k a (c.toNat : Int) (n : Int) (i : Int) = some ((n + (a.data.toList.drop i).count c : Nat) : Int) := by
  intro d
  induction d with
  | zero =>
    intro i k n hi hk hn
    obtain ⟨k, rfl⟩ : ∃ m, k = m + 1 := ⟨k - 1, by omega⟩
    simp only [spec_liCount.l0]
    rw [if_neg (by omega), List.drop_of_length_le (by rw [data_length]; omega)]
    simp
  | succ d ih =>
    intro i k n hi hk hn
    obtain ⟨k, rfl⟩ : ∃ m, k = m + 1 := ⟨k - 1, by omega⟩
    obtain ⟨x, hd, hb⟩ := bt_eq a i (by omega)
    simp only [spec_liCount.l0]
    rw [if_pos (by omega), if_pos (by omega), hb, w64_succ (i := i) (n := a.size) (by omega) hs, w64_succ (i := n) (n := a.size) (by omega) hs, ih (i + 1) k (n + 1) (by omega) (by omega) (by omega), ih (i + 1) k n (by omega) (by omega) (by omega), hd, List.count_cons]
    simp only [byte_inj]
    by_cases h : x = c
    · subst h
      rw [if_pos rfl]
      simp
      omega
    · rw [if_neg h]
      simp [h]
theorem liCount_eq (a : ByteArray) (hs : a.size ≤ 140737488351232) (c : UInt8) (k : Nat) (hk : a.size < k) : spec_liCount.f k a (c.toNat : Int) = some ((a.data.toList.count c : Nat) : Int) := by
  have h := liCount_l0 a hs c a.size 0 k 0 (by omega) hk (by omega)
  rw [List.drop_zero, Nat.zero_add] at h
  exact h
theorem impl_count_eq (a : ByteArray) : impl_count.f a = some (((a.data.toList.count 84 : Nat) : Int), ((a.data.toList.count 46 : Nat) : Int), ((a.data.toList.count 70 : Nat) : Int)) := rfl
theorem counts_size (l : List UInt8) (h : l.all sgn = true) : l.count 84 + l.count 46 + l.count 70 = l.length := by
  induction l with
  | nil => rfl
  | cons c l ih =>
    simp only [List.all_cons, Bool.and_eq_true] at h
    have ih := ih h.2
    have hc := h.1
    unfold sgn at hc
    simp only [Bool.or_eq_true, beq_iff_eq] at hc
    rw [List.count_cons, List.count_cons, List.count_cons, List.length_cons]
    rcases hc with (rfl | rfl) | rfl <;> simp <;> omega
end Go.Proofs.Ytgiphajcffambaa.XB

namespace Go.Proofs.Ytgiphajcffambaa.XB
set_option linter.unusedVariables false
set_option linter.unusedSimpArgs false
open Go Go.RowKit Go.Proofs.YtgiphajcffambaaW.PrintWords Go.Proofs.YtgiphajcffambaaB

theorem data_append (x y : ByteArray) : (x ++ y).data.toList = x.data.toList ++ y.data.toList := by simp
theorem size_append (x y : ByteArray) : (x ++ y).size = x.size + y.size := by simp
/-- so many of a sign -/
def reps (c : UInt8) (n : Nat) : ByteArray := ⟨(List.replicate n c).toArray⟩
theorem reps_size (c : UInt8) (n : Nat) : (reps c n).size = n := by
  unfold reps
  rw [Lib.size_eq]
  simp
theorem reps_list (c : UInt8) (n : Nat) : (reps c n).data.toList = List.replicate n c := by simp [reps]
theorem ba_ext {x y : ByteArray} (h : x.data.toList = y.data.toList) : x = y := by rw [← Lib.mk_data x, ← Lib.mk_data y, h]
theorem reps_succ (c : UInt8) (n : Nat) : reps c n ++ (⟨#[c]⟩ : ByteArray) = reps c (n + 1) := by
  apply ba_ext
  rw [data_append, reps_list, reps_list]
  simp [List.replicate_succ']
theorem liTimes_l0 (c : UInt8) : ∀ (d m k : Nat), m + d ≤ 1000000 → d < k → spec_liTimes.l0 k (⟨#[c]⟩ : ByteArray) (d : Int) (reps c m) = some (reps c (m + d)) := by
  intro d
  induction d with
  | zero =>
    intro m k _ hk
    obtain ⟨k, rfl⟩ : ∃ m, k = m + 1 := ⟨k - 1, by omega⟩
    simp only [spec_liTimes.l0]
    rw [if_neg (by omega)]
    rfl
  | succ d ih =>
    intro m k hm hk
    obtain ⟨k, rfl⟩ : ∃ m, k = m + 1 := ⟨k - 1, by omega⟩
    simp only [spec_liTimes.l0]
    have h1 : (⟨#[c]⟩ : ByteArray).size = 1 := rfl
    rw [if_pos (by omega), if_pos (by rw [reps_size, h1]; omega), reps_succ, w64 (x := ((d + 1 : Nat) : Int) - 1) (by omega) (by omega), show ((d + 1 : Nat) : Int) - 1 = (d : Int) from by omega, ih (m + 1) k (by omega) (by omega)]
    congr 2
    omega
theorem liTimes_eq (c : UInt8) (n k : Nat) (hn : n ≤ 1000000) (hk : n < k) : spec_liTimes.f k (⟨#[c]⟩ : ByteArray) (n : Int) = some (reps c n) := by
  have h := liTimes_l0 c n 0 k (by omega) hk
  rw [Nat.zero_add] at h
  exact h
/-- three parts, one behind the other -/
def three (c : UInt8) (l m : Nat) (d : UInt8) (n : Nat) : ByteArray := (reps c l ++ reps 46 m) ++ reps d n
theorem three_list (c d : UInt8) (l m n : Nat) : (three c l m d n).data.toList = List.replicate l c ++ (List.replicate m 46 ++ List.replicate n d) := by
  unfold three
  rw [data_append, data_append, reps_list, reps_list, reps_list, List.append_assoc]
theorem three_size (c d : UInt8) (l m n : Nat) : (three c l m d n).size = l + m + n := by
  unfold three
  rw [size_append, size_append, reps_size, reps_size, reps_size]
theorem repeat_one (c : UInt8) : ∀ n, Lib.repeatL [c] n = List.replicate n c
  | 0 => rfl
  | n + 1 => by rw [Lib.repeatL, repeat_one c n]; rfl
theorem repeat_eq (c : UInt8) (n : Nat) (hn : n ≤ 1000000) : strings_Repeat.f (⟨#[c]⟩ : ByteArray) (n : Int) = some (reps c n) := by
  unfold strings_Repeat.f
  rw [if_pos ⟨by omega, by omega, by rw [Int.toNat_natCast, show (⟨#[c]⟩ : ByteArray).size = 1 from rfl]; omega⟩, Int.toNat_natCast, show (⟨#[c]⟩ : ByteArray).data.toList = [c] from rfl, repeat_one]
  rfl
end Go.Proofs.Ytgiphajcffambaa.XB

namespace Go.Proofs.Ytgiphajcffambaa.XB
set_option linter.unusedVariables false
set_option linter.unusedSimpArgs false
open Go Go.RowKit Go.Proofs.YtgiphajcffambaaW.PrintWords Go.Proofs.YtgiphajcffambaaB

theorem liLast_eq (a : ByteArray) (hs : a.size ≤ 100000) (k : Nat) (hk : a.size < k) : spec_liLast.f k a = some (three 70 (a.data.toList.count 70) (a.data.toList.count 46) 84 (a.data.toList.count 84)) := by
  have c1 : ∀ c : UInt8, a.data.toList.count c ≤ a.size := fun c => by rw [← data_length]; exact List.count_le_length
  unfold spec_liLast.f three
  rw [show spec_liCount.f k a 70 = _ from liCount_eq a (by omega) 70 k hk, show spec_liCount.f k a 46 = _ from liCount_eq a (by omega) 46 k hk, show spec_liCount.f k a 84 = _ from liCount_eq a (by omega) 84 k hk]
  have b1 := c1 70
  have b2 := c1 46
  have b3 := c1 84
  simp only [Option.bind_some]
  rw [liTimes_eq 70 _ k (by omega) (by omega), liTimes_eq 46 _ k (by omega) (by omega), liTimes_eq 84 _ k (by omega) (by omega)]
  simp only [Option.bind_some]
  rw [if_pos (by rw [reps_size, reps_size]; omega), if_pos (by rw [size_append, reps_size, reps_size, reps_size]; omega)]
theorem impl_last_eq (a : ByteArray) (hs : a.size ≤ 100000) : impl_last.f a = some (three 70 (a.data.toList.count 70) (a.data.toList.count 46) 84 (a.data.toList.count 84)) := by
  have c1 : ∀ c : UInt8, a.data.toList.count c ≤ a.size := fun c => by rw [← data_length]; exact List.count_le_length
  have b1 := c1 70
  have b2 := c1 46
  have b3 := c1 84
  unfold impl_last.f impl_ordered.f three
  rw [impl_count_eq]
  simp only [Option.bind_some]
  rw [show Utf8.encode 84 = (⟨#[84]⟩ : ByteArray) from by decide, show Utf8.encode 70 = (⟨#[70]⟩ : ByteArray) from by decide, repeat_eq 84 _ (by omega), repeat_eq 46 _ (by omega), repeat_eq 70 _ (by omega)]
  simp only [Option.bind_some]
  rw [if_pos (by rw [reps_size, reps_size]; omega), if_pos (by rw [size_append, reps_size, reps_size, reps_size]; omega)]
  rfl
end Go.Proofs.Ytgiphajcffambaa.XB

namespace Go.Proofs.Ytgiphajcffambaa.XB
set_option linter.unusedVariables false
set_option linter.unusedSimpArgs false
open Go Go.RowKit Go.Proofs.YtgiphajcffambaaW.PrintWords Go.Proofs.YtgiphajcffambaaB
theorem in_eq3 (a b c : Int) : spec_l1In.f a b c = some (decide (b ≤ a ∧ a ≤ c)) := by
  unfold spec_l1In.f
  by_cases h : b ≤ a <;> simp [h]
theorem within_eq3 (a b c : Int) : impl_within.f a b c = some (decide (b ≤ a ∧ a ≤ c)) := by
  unfold impl_within.f
  by_cases h : b ≤ a <;> simp [h]
theorem all_eq3 (x y z lo hi : Int) : spec_l1All.f 20 [x, y, z] lo hi = some (decide (lo ≤ x ∧ x ≤ hi) && (decide (lo ≤ y ∧ y ≤ hi) && decide (lo ≤ z ∧ z ≤ hi))) := by
  unfold spec_l1All.f
  simp only [spec_l1All.l0, in_eq3, Option.bind_some, show (([x, y, z] : List Int).length : Int) = 3 from rfl, show wrap64 (0 + 1) = 1 from by decide +kernel, show wrap64 (1 + 1) = 2 from by decide +kernel, show wrap64 (2 + 1) = 3 from by decide +kernel, show rd ([x, y, z] : List Int) 0 = x from rfl, show rd ([x, y, z] : List Int) 1 = y from rfl, show rd ([x, y, z] : List Int) 2 = z from rfl]
  generalize decide (lo ≤ x ∧ x ≤ hi) = p
  generalize decide (lo ≤ y ∧ y ≤ hi) = q
  generalize decide (lo ≤ z ∧ z ≤ hi) = r
  cases p <;> cases q <;> cases r <;> rfl
def threeB (m x y z : Int) : Bool := decide (0 ≤ x ∧ x ≤ m) && (decide (0 ≤ y ∧ y ≤ m) && (decide (0 ≤ z ∧ z ≤ m) && decide (1 ≤ wrap64 (wrap64 (x + y) + z) ∧ wrap64 (wrap64 (x + y) + z) ≤ m)))
theorem threeB_is {m x y z : Int} (hm : m ≤ 1000) (h : threeB m x y z = true) : ∃ t g f : Nat, x = (t : Int) ∧ y = (g : Int) ∧ z = (f : Int) ∧ 1 ≤ t + g + f ∧ (t + g + f : Int) ≤ m := by
  unfold threeB at h
  simp only [Bool.and_eq_true, decide_eq_true_eq] at h
  obtain ⟨h1, h2, h3, h4⟩ := h
  have hw : wrap64 (wrap64 (x + y) + z) = x + y + z := by unfold wrap64; omega
  rw [hw] at h4
  exact ⟨x.toNat, y.toNat, z.toNat, by omega, by omega, by omega, by omega, by omega⟩
theorem impl_three3 (x y z m : Int) : impl_areCounts.f x y z m = some (threeB m x y z) := by
  unfold impl_areCounts.f threeB
  simp only [Option.bind_some, within_eq3]
  generalize decide (0 ≤ x ∧ x ≤ m) = p
  generalize decide (0 ≤ y ∧ y ≤ m) = q
  generalize decide (0 ≤ z ∧ z ≤ m) = r
  cases p <;> cases q <;> cases r <;> rfl
end Go.Proofs.Ytgiphajcffambaa.XB

namespace Go.Proofs.Ytgiphajcffambaa.XB
set_option linter.unusedVariables false
set_option linter.unusedSimpArgs false
open Go Go.RowKit Go.Proofs.YtgiphajcffambaaW.PrintWords Go.Proofs.YtgiphajcffambaaB

theorem stop_inv (c : ByteArray → Int → Int → Bool) (P : ByteArray → Prop) (h : ∀ s f t, P s → c s f t = true → P (mv s f t)) : ∀ (l : List S35) (s : ByteArray) (i : Nat), P s → P (stop c l s i).1
  | [], _, _, hp => hp
  | m :: l, s, i, hp => by
    by_cases hc : c s m.f0 m.f1 = true
    · rw [stop_yes hc]
      exact stop_inv c P h l _ (i + 1) (h s _ _ hp hc)
    · rw [stop_no hc]
      exact hp
theorem mv_count (a : ByteArray) (f t : Int) (f0 : 0 ≤ f) (f1 : f < (a.size : Int)) (t0 : 0 ≤ t) (t1 : t < (a.size : Int)) (ne : f ≠ t) (h46 : bt a t = 46) (c : UInt8) : (mv a f t).data.toList.count c = a.data.toList.count c := by
  obtain ⟨i, rfl⟩ : ∃ i : Nat, f = (i : Int) := ⟨f.toNat, by omega⟩
  obtain ⟨j, rfl⟩ : ∃ j : Nat, t = (j : Int) := ⟨t.toNat, by omega⟩
  have hi : i < a.data.toList.length := by rw [data_length]; omega
  have hj : j < a.data.toList.length := by rw [data_length]; omega
  have hij : i ≠ j := by omega
  obtain ⟨x, hd, hb⟩ := bt_eq a j (by omega)
  rw [hb, is46] at h46
  subst h46
  have hlj : a.data.toList[j] = 46 := by
    rw [List.drop_eq_getElem_cons hj] at hd
    injection hd
  unfold mv
  simp only [Int.toNat_natCast]
  show List.count c ((a.data.toList.set j (a.data.toList.getD i 0)).set i 46) = _
  rw [List.getD_eq_getElem?_getD, List.getElem?_eq_getElem hi]
  simp only [Option.getD_some]
  rw [List.count_set (h := by rw [List.length_set]; exact hi), List.count_set (h := hj), List.getElem_set, if_neg (show ¬ j = i by omega), hlj]
  have p1 : (46 == c) = true → 1 ≤ a.data.toList.count c := fun h => by
    have : (46 : UInt8) = c := by simpa using h
    subst this
    exact List.one_le_count_iff.2 (hlj ▸ List.getElem_mem hj)
  have p2 : (a.data.toList[i] == c) = true → 1 ≤ a.data.toList.count c := fun h => by
    have : a.data.toList[i] = c := by simpa using h
    exact List.one_le_count_iff.2 (this ▸ List.getElem_mem hi)
  revert p1 p2
  generalize (46 == c) = b1
  generalize (a.data.toList[i] == c) = b2
  generalize List.count c a.data.toList = n
  intro p1 p2
  cases b1 <;> cases b2 <;> simp_all <;> omega
theorem spec_first_eq (t g f : Nat) (h : t + g + f ≤ 1000) (k : Nat) (hk : 1001 < k) : spec_liFirst.f k (t : Int) (g : Int) (f : Int) = some (three 84 t g 70 f) := by
  unfold spec_liFirst.f three
  rw [liTimes_eq 84 t k (by omega) (by omega), liTimes_eq 46 g k (by omega) (by omega), liTimes_eq 70 f k (by omega) (by omega)]
  simp only [Option.bind_some]
  rw [if_pos (by rw [reps_size, reps_size]; omega), if_pos (by rw [size_append, reps_size, reps_size, reps_size]; omega)]
theorem impl_first_eq (t g f : Nat) (h : t + g + f ≤ 1000) : impl_first.f (t : Int) (g : Int) (f : Int) = some (three 84 t g 70 f) := by
  unfold impl_first.f impl_ordered.f three
  rw [show Utf8.encode 84 = (⟨#[84]⟩ : ByteArray) from by decide, show Utf8.encode 70 = (⟨#[70]⟩ : ByteArray) from by decide, repeat_eq 84 t (by omega), repeat_eq 46 g (by omega), repeat_eq 70 f (by omega)]
  simp only [Option.bind_some]
  rw [if_pos (by rw [reps_size, reps_size]; omega), if_pos (by rw [size_append, reps_size, reps_size, reps_size]; omega)]
  rfl
theorem spec_swNumbers_eq (x y z : Int) (k : Nat) (hk : 20 ≤ k) : spec_swNumbers.f k x y z = some (threeB 8 x y z) := by
  refine at_rounds (spec_swNumbers.mono x y z) hk ?_
  unfold spec_swNumbers.f threeB
  rw [all_eq3]
  simp only [Option.bind_some, in_eq3]
  generalize decide (0 ≤ x ∧ x ≤ 8) = p
  generalize decide (0 ≤ y ∧ y ≤ 8) = q
  generalize decide (0 ≤ z ∧ z ≤ 8) = r
  cases p <;> cases q <;> cases r <;> rfl
theorem exchange_sw (x y z : Int) (r : List S35) (k : Nat) (hk : r.length + 1200 < k) : ∃ m u q : Bool, spec_swMoves.f k x y z r = some m ∧ (m = true → spec_swIs.f k x y z r = some u) ∧ (m = true → r.length ≤ 100) ∧ impl_IsExchange.f x y z r = some (m && u, q) := by
  unfold impl_IsExchange.f spec_swMoves.f
  rw [spec_swNumbers_eq x y z k (by omega), impl_three3]
  simp only [Option.bind_some]
  cases h3 : threeB 8 x y z with
  | false => exact ⟨false, false, false, rfl, fun h => (by cases h), fun h => (by cases h), rfl⟩
  | true =>
    obtain ⟨t, g, f, rfl, rfl, rfl, h1, h2⟩ := threeB_is (by omega) h3
    simp only [if_true, Option.bind_some]
    by_cases hl : 100 < r.length
    · rw [if_pos hl]
      exact ⟨false, false, false, by simp; omega, fun h => (by cases h), fun h => (by cases h), rfl⟩
    · rw [if_neg hl]
      have hs : (three 84 t g 70 f).size = t + g + f := three_size 84 70 t g f
      have hI : lineI (three 84 t g 70 f) := by unfold lineI; rw [hs]; omega
      unfold spec_swIs.f
      rw [spec_first_eq t g f (by omega) k (by omega), impl_first_eq t g f (by omega)]
      simp only [Option.bind_some]
      generalize hw : three 84 t g 70 f = w at *
      rw [liPlay_eq r (by omega) w hI k (by omega), playL_eq lineI _ canB line_can line_made r w 0 hI]
      simp only [Option.bind_some, ends, Nat.zero_add]
      have hP := stop_inv canB (fun s => lineI s ∧ s.size = w.size ∧ ∀ c, s.data.toList.count c = w.data.toList.count c) (fun s f t hp hc => by
        obtain ⟨f0, f1, t0, t1, ne⟩ := canB_in hc
        have h46 : bt s t = 46 := (of_decide_eq_true hc).2.2.2.2.1
        exact ⟨(line_made s f t hp.1 hc).2, (mv_size s f t).trans hp.2.1, fun c => (mv_count s f t f0 f1 t0 t1 ne h46 c).trans (hp.2.2 c)⟩) r w 0 ⟨hI, rfl, fun _ => rfl⟩
      rw [impl_last_eq w (by omega)]
      by_cases he : (stop canB r w 0).2 = r.length
      · rw [if_pos (by omega), if_pos he, liLast_eq _ (by rw [hP.2.1]; omega) k (by rw [hP.2.1]; omega), hP.2.2, hP.2.2, hP.2.2]
        exact ⟨true, _, true, by simp; omega, fun _ => rfl, fun _ => by omega, rfl⟩
      · rw [if_neg (by omega), if_neg he]
        refine ⟨true, false, true, by simp; omega, fun _ => rfl, fun _ => by omega, ?_⟩
        simp only [Option.bind_some]
        congr 2
        rw [Bool.true_and, beq_eq_false_iff_ne]
        intro h
        have hsz := congrArg List.length h
        rw [Lib.toList_data, Lib.toList_data, data_length, data_length, three_size] at hsz
        have c1 : w.data.toList.count 84 + w.data.toList.count 46 + w.data.toList.count 70 = t + g + f := by
          rw [← hw, three_list]
          simp [List.count_append, List.count_replicate]
        have : (⟨#[]⟩ : ByteArray).size = 0 := rfl
        omega
/-- the reference's walk from the end -/
theorem swBack_l0 (l : List S35) (hl : l.length ≤ 100) : ∀ (d k : Nat) (acc : List S35), d ≤ l.length → d < k → acc.length + d ≤ 100 → spec_swBack.l0 k l acc ((d : Int) - 1) = some (acc ++ ((l.take d).reverse.map swp)) := by
  intro d
  induction d with
  | zero =>
    intro k acc hd hk ha
    obtain ⟨k, rfl⟩ : ∃ m, k = m + 1 := ⟨k - 1, by omega⟩
    simp only [spec_swBack.l0]
    rw [if_neg (by omega)]
    simp
  | succ d ih =>
    intro k acc hd hk ha
    obtain ⟨k, rfl⟩ : ∃ m, k = m + 1 := ⟨k - 1, by omega⟩
    have e1 : ((d + 1 : Nat) : Int) - 1 = (d : Int) := by omega
    have e2 : wrap64 ((d : Int) - 1) = (d : Int) - 1 := w64 (by omega) (by omega)
    have e3 : (l.take (d + 1)).reverse.map swp = (⟨(rd_T35 l (d : Int)).f1, (rd_T35 l (d : Int)).f0⟩ : S35) :: (l.take d).reverse.map swp := by
      rw [List.take_succ_eq_append_getElem (by omega), List.reverse_append, List.reverse_singleton, List.singleton_append, List.map_cons]
      unfold rd_T35
      rw [Int.toNat_natCast, List.getD_eq_getElem?_getD, List.getElem?_eq_getElem (by omega)]
      rfl
    rw [e1]
    simp only [spec_swBack.l0]
    rw [if_pos (by omega), if_pos (by omega), if_pos (by omega), if_pos (by omega), e2, ih k _ (by omega) (by omega) (by simp; omega), e3, List.append_assoc]
    rfl
theorem swBack_eq (l : List S35) (hl : l.length ≤ 100) (k : Nat) (hk : 100 < k) : spec_swBack.f k l = some (l.reverse.map swp) := by
  unfold spec_swBack.f
  rw [show wrap64 ((l.length : Int) - 1) = (l.length : Int) - 1 from w64 (by omega) (by omega), swBack_l0 l hl l.length k [] (Nat.le_refl _) (by omega) (by simp; omega), List.take_length, List.nil_append]
end Go.Proofs.Ytgiphajcffambaa.XB

namespace Go.Proofs.Ytgiphajcffambaa.XB
set_option linter.unusedVariables false
set_option linter.unusedSimpArgs false
open Go Go.RowKit Go.Proofs.YtgiphajcffambaaW.PrintWords Go.Proofs.YtgiphajcffambaaB

theorem rdM_set (l : List S35) (i j : Nat) (v : S35) (hi : i < l.length) : rd_T35 (l.set i v) (j : Int) = if j = i then v else rd_T35 l (j : Int) := by
  unfold rd_T35
  rw [Int.toNat_natCast, List.getD_eq_getElem?_getD, List.getD_eq_getElem?_getD, List.getElem?_set]
  by_cases h : j = i
  · subst h
    simp [hi]
  · rw [if_neg (fun e => h e.symm), if_neg h]
theorem markMoveS_l0 (n : Nat) (hs : n ≤ 2000000) : ∀ (d i k : Nat) (l : List S35), l.length = n → i + d = n → d < k → (∀ j : Nat, j < i → rd_T35 l (j : Int) = ⟨2 * (j : Int) + 1, 2 * (j : Int) + 2⟩) →
    ∃ y, laws_markMoveS.l0 k l (2 * (i : Int) + 1) (i : Int) = some (2 * (n : Int) + 1, y) ∧ y.length = n ∧ ∀ j : Nat, j < n → rd_T35 y (j : Int) = ⟨2 * (j : Int) + 1, 2 * (j : Int) + 2⟩ := by
  intro d
  induction d with
  | zero =>
    intro i k l hl hi hk h
    obtain ⟨k, rfl⟩ : ∃ m, k = m + 1 := ⟨k - 1, by omega⟩
    simp only [laws_markMoveS.l0]
    rw [if_neg (by omega), show (i : Int) = (n : Int) from by omega]
    exact ⟨l, rfl, hl, fun j hj => h j (by omega)⟩
  | succ d ih =>
    intro i k l hl hi hk h
    obtain ⟨k, rfl⟩ : ∃ m, k = m + 1 := ⟨k - 1, by omega⟩
    simp only [laws_markMoveS.l0]
    have w1 : wrap64 (2 * (i : Int) + 1 + 1) = 2 * (i : Int) + 2 := by rw [w64 (by omega) (by omega)]; omega
    have w2 : wrap64 (2 * (i : Int) + 2 + 1) = 2 * ((i + 1 : Nat) : Int) + 1 := by rw [w64 (by omega) (by omega)]; omega
    rw [if_pos (by omega), if_pos (by omega), w64_succ (n := n) (by omega) (by omega), Int.toNat_natCast, w1, w2]
    simp only [Option.bind_some]
    have hf : rd_T35 (l.set i ⟨2 * (i : Int) + 1, (rd_T35 l (i : Int)).f1⟩) (i : Int) = ⟨2 * (i : Int) + 1, (rd_T35 l (i : Int)).f1⟩ := by rw [rdM_set l i i _ (by omega), if_pos rfl]
    rw [hf]
    simp only
    exact ih (i + 1) k ((l.set i ⟨2 * (i : Int) + 1, (rd_T35 l (i : Int)).f1⟩).set i ⟨2 * (i : Int) + 1, 2 * (i : Int) + 2⟩) (by rw [List.length_set, List.length_set]; exact hl) (by omega) (by omega) fun j hj => by
      rw [rdM_set _ i j _ (by rw [List.length_set]; omega)]
      by_cases e : j = i
      · rw [if_pos e, e]
      · rw [if_neg e, rdM_set l i j _ (by omega), if_neg e]
        exact h j (by omega)
theorem markMoveS_eq (l : List S35) (hs : l.length ≤ 2000000) (k : Nat) (hk : l.length < k) : ∃ y, laws_markMoveS.f k l 1 = some (2 * (l.length : Int) + 1, y) ∧ y.length = l.length ∧ ∀ j : Nat, j < l.length → rd_T35 y (j : Int) = ⟨2 * (j : Int) + 1, 2 * (j : Int) + 2⟩ :=
  markMoveS_l0 l.length hs l.length 0 k l rfl (by omega) hk (fun j hj => by omega)
theorem heldMoveS_l0 (y : List S35) (hs : y.length ≤ 2000000) (h : ∀ j : Nat, j < y.length → rd_T35 y (j : Int) = ⟨2 * (j : Int) + 1, 2 * (j : Int) + 2⟩) : ∀ (d i k : Nat), i + d = y.length → d < k → laws_heldMoveS.l0 k y (2 * (i : Int) + 1) (i : Int) = some (2 * (y.length : Int) + 1) := by
  intro d
  induction d with
  | zero =>
    intro i k hi hk
    obtain ⟨k, rfl⟩ : ∃ m, k = m + 1 := ⟨k - 1, by omega⟩
    simp only [laws_heldMoveS.l0]
    rw [if_neg (by omega), show (i : Int) = (y.length : Int) from by omega]
  | succ d ih =>
    intro i k hi hk
    obtain ⟨k, rfl⟩ : ∃ m, k = m + 1 := ⟨k - 1, by omega⟩
    simp only [laws_heldMoveS.l0]
    have w1 : wrap64 (2 * (i : Int) + 1 + 1) = 2 * (i : Int) + 2 := by rw [w64 (by omega) (by omega)]; omega
    have w2 : wrap64 (2 * (i : Int) + 2 + 1) = 2 * ((i + 1 : Nat) : Int) + 1 := by rw [w64 (by omega) (by omega)]; omega
    rw [if_pos (by omega), if_pos (by omega), h i (by omega), w1]
    simp only
    rw [if_pos trivial, if_pos trivial, w2, w64_succ (n := y.length) (by omega) (by omega)]
    exact ih (i + 1) k (by omega) (by omega)
theorem heldMoveS_eq (y : List S35) (hs : y.length ≤ 2000000) (h : ∀ j : Nat, j < y.length → rd_T35 y (j : Int) = ⟨2 * (j : Int) + 1, 2 * (j : Int) + 2⟩) (k : Nat) (hk : y.length < k) : laws_heldMoveS.f k y 1 = some (2 * (y.length : Int) + 1) :=
  heldMoveS_l0 y hs h y.length 0 k (by omega) hk
end Go.Proofs.Ytgiphajcffambaa.XB
