/- Plain facts on the bytes of a text and on numbers, for all texts and numbers within the bounds that each theorem names. -/
import Derived.Test.YtpelhinjoambfaaWWords
import Derived.Lib.SlTrimSet
import Derived.Lib.Strings
namespace Go.Proofs.YtpelhinjoambfaaB
set_option linter.unusedVariables false
set_option linter.unusedSimpArgs false
open Go Go.RowKit Go.Proofs.YtpelhinjoambfaaW.PrintWords

theorem w64 {x : Int} (h0 : -9223372036854775808 ≤ x) (h1 : x ≤ 9223372036854775807) : wrap64 x = x := by
  unfold wrap64
  omega
theorem w64_succ {i n : Nat} (h : i < n) (hn : n ≤ 140737488351232) : wrap64 ((i : Int) + 1) = ((i + 1 : Nat) : Int) := by
  unfold wrap64
  omega
theorem bt_eq (a : ByteArray) (i : Nat) (h : i < a.size) : ∃ c : UInt8, a.data.toList.drop i = c :: a.data.toList.drop (i + 1) ∧ bt a (i : Int) = (c.toNat : Int) := by
  have hl : i < a.data.toList.length := by rw [data_length]; exact h
  refine ⟨a.data.toList[i], List.drop_eq_getElem_cons hl, ?_⟩
  unfold bt
  rw [dif_pos (show (i : Int).toNat < a.size by rw [Int.toNat_natCast]; exact h)]
  rfl
theorem byte_is (c : UInt8) (n : Nat) (hn : n < 256) : ((c.toNat : Int) = (n : Int)) ↔ c = UInt8.ofNat n := by
  constructor
  · intro h
    have h2 : c.toNat = n := by omega
    rw [← h2]
    simp
  · rintro rfl
    rw [UInt8.toNat_ofNat']
    omega
theorem is84 (c : UInt8) : ((c.toNat : Int) = 84) ↔ c = 84 := byte_is c 84 (by decide)
theorem is70 (c : UInt8) : ((c.toNat : Int) = 70) ↔ c = 70 := byte_is c 70 (by decide)
theorem is46 (c : UInt8) : ((c.toNat : Int) = 46) ↔ c = 46 := byte_is c 46 (by decide)
theorem is47 (c : UInt8) : ((c.toNat : Int) = 47) ↔ c = 47 := byte_is c 47 (by decide)
theorem byte_inj {c d : UInt8} : ((c.toNat : Int) = (d.toNat : Int)) ↔ c = d := by
  constructor
  · intro h
    exact UInt8.toNat_inj.1 (by omega)
  · rintro rfl
    rfl
/-- The signs of lines, and of words. -/
def sgn (c : UInt8) : Bool := c == 84 || c == 70 || c == 46
def tf (c : UInt8) : Bool := c == 84 || c == 70
theorem dropWhile_head {p : UInt8 → Bool} : ∀ (l : List UInt8) {c : UInt8} {t : List UInt8}, l.dropWhile p = c :: t → p c = false
  | [], _, _, h => by simp at h
  | x :: l, c, t, h => by
    rw [List.dropWhile_cons] at h
    split at h
    · exact dropWhile_head l h
    · rename_i hx
      cases h
      simpa using hx
theorem dropWhile_nil {p : UInt8 → Bool} : ∀ {l : List UInt8}, l.dropWhile p = [] ↔ ∀ x, x ∈ l → p x = true
  | [] => by simp
  | c :: l => by
    rw [List.dropWhile_cons]
    have ih := dropWhile_nil (p := p) (l := l)
    by_cases h : p c = true
    · rw [if_pos h, ih]
      simp [h]
    · rw [if_neg h]
      simp [h]
theorem trim_nil (l cs : List UInt8) : (Lib.trimS l cs = []) ↔ (l.all (cs.contains ·) = true) := by
  unfold Lib.trimS Lib.trimLeftS Lib.trimRightS
  rw [dropWhile_nil, List.all_eq_true]
  constructor
  · intro h
    cases hd : l.reverse.dropWhile (cs.contains ·) with
    | nil =>
      rw [dropWhile_nil] at hd
      exact fun x hx => hd x (List.mem_reverse.2 hx)
    | cons c t =>
      have h1 := h c (by rw [hd]; simp)
      rw [dropWhile_head _ hd] at h1
      cases h1
  · intro h x hx
    rw [List.mem_reverse] at hx
    exact h x (List.mem_reverse.1 ((List.dropWhile_sublist _).subset hx))
theorem trim_sgn (l : List UInt8) : ((⟨(Lib.trimS l [46, 70, 84]).toArray⟩ : ByteArray).toList == ([] : List UInt8)) = l.all sgn := by
  rw [Lib.toList_data, Bool.eq_iff_iff, beq_iff_eq]
  show Lib.trimS l [46, 70, 84] = [] ↔ _
  rw [trim_nil]
  have e : ∀ c : UInt8, ([46, 70, 84] : List UInt8).contains c = sgn c := by
    intro c
    unfold sgn
    by_cases h1 : c = 46
    · subst h1; decide
    by_cases h2 : c = 70
    · subst h2; decide
    by_cases h3 : c = 84
    · subst h3; decide
    simp [h1, h2, h3]
  simp only [e]
theorem trim_tf (l : List UInt8) : ((⟨(Lib.trimS l [84, 70]).toArray⟩ : ByteArray).toList == ([] : List UInt8)) = l.all tf := by
  rw [Lib.toList_data, Bool.eq_iff_iff, beq_iff_eq]
  show Lib.trimS l [84, 70] = [] ↔ _
  rw [trim_nil]
  have e : ∀ c : UInt8, ([84, 70] : List UInt8).contains c = tf c := by
    intro c
    unfold tf
    by_cases h2 : c = 70
    · subst h2; decide
    by_cases h3 : c = 84
    · subst h3; decide
    simp [h2, h3]
  simp only [e]
def isLine (m : Nat) (a : ByteArray) : Bool := decide (1 ≤ a.size) && (decide (a.size ≤ m) && a.data.toList.all sgn)
def isWord (a : ByteArray) : Bool := decide (a.size ≤ 40) && a.data.toList.all tf
def isRing (a : ByteArray) : Bool := decide (3 ≤ a.size) && isLine 9 a
theorem isLine_size {m : Nat} {a : ByteArray} (h : isLine m a = true) : 1 ≤ a.size ∧ a.size ≤ m ∧ a.data.toList.all sgn = true := by
  unfold isLine at h
  simp only [Bool.and_eq_true, decide_eq_true_eq] at h
  exact h
theorem less_not : ∀ (x y : List UInt8), Op.bytesLess x y = true → Op.bytesLess y x = false ∧ x ≠ y
  | x, [], h => by cases x <;> simp [Op.bytesLess] at h
  | [], _ :: _, _ => ⟨rfl, by simp⟩
  | a :: x, b :: y, h => by
    simp only [Op.bytesLess, Bool.or_eq_true, Bool.and_eq_true, decide_eq_true_eq, beq_iff_eq] at h
    rcases h with h | ⟨rfl, h⟩
    · refine ⟨?_, fun e => ?_⟩
      · simp only [Op.bytesLess, Bool.or_eq_false_iff, Bool.and_eq_false_iff, decide_eq_false_iff_not, beq_eq_false_iff_ne]
        have h2 := UInt8.lt_iff_toNat_lt.1 h
        exact ⟨fun h3 => by have := UInt8.lt_iff_toNat_lt.1 h3; omega, .inl (fun e => by subst e; omega)⟩
      · cases e
        have h2 := UInt8.lt_iff_toNat_lt.1 h
        omega
    · obtain ⟨h1, h2⟩ := less_not x y h
      refine ⟨?_, fun e => by cases e; exact h2 rfl⟩
      simp only [Op.bytesLess, h1, Bool.and_false, Bool.or_false, decide_eq_false_iff_not]
      exact fun h3 => by have := UInt8.lt_iff_toNat_lt.1 h3; omega
theorem less_total : ∀ (x y : List UInt8), Op.bytesLess x y = false → Op.bytesLess y x = true ∨ x = y
  | [], [], _ => .inr rfl
  | _ :: _, [], _ => .inl rfl
  | [], _ :: _, h => by simp [Op.bytesLess] at h
  | a :: x, b :: y, h => by
    simp only [Op.bytesLess, Bool.or_eq_false_iff, Bool.and_eq_false_iff, decide_eq_false_iff_not, beq_eq_false_iff_ne] at h
    obtain ⟨h1, h2⟩ := h
    by_cases e : a = b
    · subst e
      rcases h2 with h2 | h2
      · exact absurd rfl h2
      · rcases less_total x y h2 with h3 | h3
        · exact .inl (by simp [Op.bytesLess, h3])
        · exact .inr (by rw [h3])
    · refine .inl ?_
      have h3 : b < a := by
        rw [UInt8.lt_iff_toNat_lt] at h1 ⊢
        have h4 : a.toNat ≠ b.toNat := fun h5 => e (UInt8.toNat_inj.1 h5)
        omega
      simp [Op.bytesLess, h3]
/-- A law that holds two results of two parts against each other. -/
theorem law_two {α : Type} [DecidableEq α] (x y : Option (α × Bool)) (r : α × Bool) (hx : x = some r) (hy : y = some r) :
    (x.bind fun p => (y.bind fun q => (if q.1 = p.1 then (if (q.2 != p.2) = true then (some false) else (some true)) else (some false)))) = some true := by
  subst hx; subst hy; simp
theorem law_str (x y : Option (ByteArray × Bool)) (r : ByteArray × Bool) (hx : x = some r) (hy : y = some r) :
    (x.bind fun p => (y.bind fun q => (if q.1.toList = p.1.toList then (if (q.2 != p.2) = true then (some false) else (some true)) else (some false)))) = some true := by
  subst hx; subst hy; simp
theorem law_one (x y : Option Bool) (r : Bool) (hx : x = some r) (hy : y = some r) :
    (x.bind fun p => (y.bind fun q => (if (q != p) = true then (some false) else (some true)))) = some true := by
  subst hx; subst hy; simp
end Go.Proofs.YtpelhinjoambfaaB
