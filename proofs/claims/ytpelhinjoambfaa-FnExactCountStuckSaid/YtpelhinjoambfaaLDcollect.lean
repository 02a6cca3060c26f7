/- Lists of moves: what is collected place by place; whether a move is among them. For all lists of at most 1000 moves. -/
import Derived.Test.YtpelhinjoambfaaXD0
import Derived.Test.YtpelhinjoambfaaB
namespace Go.Proofs.Ytpelhinjoambfaa.XD
set_option linter.unusedVariables false
set_option linter.unusedSimpArgs false
open Go Go.RowKit Go.Proofs.YtpelhinjoambfaaW.PrintWords Go.Proofs.YtpelhinjoambfaaB

instance : DecidableEq S58 := fun x y => decidable_of_iff (x.f0 = y.f0 ∧ x.f1 = y.f1) (by obtain ⟨a, b⟩ := x; obtain ⟨c, d⟩ := y; simp)
/-- all moves from f to a place from j on, e places, that p lets in -/
def collect (p : Int → Bool) (f : Int) : Nat → Nat → List S58
  | 0, _ => []
  | e + 1, j => (if p (j : Int) = true then [⟨f, (j : Int)⟩] else []) ++ collect p f e (j + 1)
theorem collect_length (p : Int → Bool) (f : Int) : ∀ (e j : Nat), (collect p f e j).length ≤ e
  | 0, _ => by simp [collect]
  | e + 1, j => by
    have h := collect_length p f e (j + 1)
    rw [collect, List.length_append]
    split
    · simp; omega
    · simp; omega
theorem collect_none (p : Int → Bool) (f : Int) : ∀ (e j : Nat), (∀ t : Nat, j ≤ t → t < j + e → p (t : Int) = false) → collect p f e j = []
  | 0, _, _ => rfl
  | e + 1, j, h => by
    rw [collect, h j (by omega) (by omega), collect_none p f e (j + 1) (fun t h1 h2 => h t (by omega) (by omega))]
    rfl
theorem collect_split (p : Int → Bool) (f : Int) : ∀ (e1 e2 j : Nat), collect p f (e1 + e2) j = collect p f e1 j ++ collect p f e2 (j + e1)
  | 0, e2, j => by rw [Nat.zero_add]; rfl
  | e1 + 1, e2, j => by
    rw [show e1 + 1 + e2 = (e1 + e2) + 1 from by omega, collect, collect, collect_split p f e1 e2 (j + 1), List.append_assoc, show j + 1 + e1 = j + (e1 + 1) from by omega]
theorem collect_one (p : Int → Bool) (f : Int) (e j g : Nat) (h1 : j ≤ g) (h2 : g < j + e) (h : ∀ t : Nat, j ≤ t → t < j + e → (p (t : Int) = true ↔ t = g)) : collect p f e j = [⟨f, (g : Int)⟩] := by
  obtain ⟨a, rfl⟩ : ∃ a, g = j + a := ⟨g - j, by omega⟩
  obtain ⟨b, rfl⟩ : ∃ b, e = a + (1 + b) := ⟨e - a - 1, by omega⟩
  have no : ∀ t : Nat, j ≤ t → t < j + (a + (1 + b)) → t ≠ j + a → p (t : Int) = false := fun t x y z => by
    cases hp : p (t : Int) with
    | false => rfl
    | true => exact absurd ((h t x y).1 hp) z
  rw [collect_split, collect_split, collect_none p f a j (fun t x y => no t x (by omega) (by omega)), collect_none p f b (j + a + 1) (fun t x y => no t (by omega) (by omega) (by omega))]
  simp only [collect, (h (j + a) (by omega) (by omega)).2 rfl, if_true, List.nil_append, List.append_nil]
theorem collect_mem (p : Int → Bool) (f : Int) (m : S58) : ∀ (e j : Nat), m ∈ collect p f e j ↔ (m.f0 = f ∧ p m.f1 = true ∧ (j : Int) ≤ m.f1 ∧ m.f1 < (j : Int) + e)
  | 0, j => by simp [collect]
  | e + 1, j => by
    rw [collect, List.mem_append, collect_mem p f m e (j + 1)]
    obtain ⟨x, y⟩ := m
    simp only
    constructor
    · rintro (h | h)
      · split at h
        · rename_i hp
          simp only [List.mem_singleton, S58.mk.injEq] at h
          obtain ⟨rfl, rfl⟩ := h
          exact ⟨rfl, hp, by omega, by omega⟩
        · cases h
      · exact ⟨h.1, h.2.1, by omega, by omega⟩
    · rintro ⟨rfl, hp, h1, h2⟩
      by_cases e : y = (j : Int)
      · subst e
        rw [if_pos hp]
        exact .inl (by simp)
      · exact .inr ⟨rfl, hp, by omega, by omega⟩
/-- place after place -/
def each (g : Nat → List S58) : Nat → Nat → List S58
  | 0, _ => []
  | d + 1, i => g i ++ each g d (i + 1)
theorem each_length (g : Nat → List S58) (c : Nat) (h : ∀ i, (g i).length ≤ c) : ∀ (d i : Nat), (each g d i).length ≤ d * c
  | 0, _ => by simp [each]
  | d + 1, i => by
    have h1 := each_length g c h d (i + 1)
    have h2 := h i
    rw [each, List.length_append, Nat.add_mul]
    omega
theorem each_congr (g g' : Nat → List S58) : ∀ (d i : Nat), (∀ j, i ≤ j → j < i + d → g j = g' j) → each g d i = each g' d i
  | 0, _, _ => rfl
  | d + 1, i, h => by rw [each, each, h i (by omega) (by omega), each_congr g g' d (i + 1) (fun j h1 h2 => h j (by omega) (by omega))]
theorem each_mem (g : Nat → List S58) (m : S58) : ∀ (d i : Nat), m ∈ each g d i ↔ ∃ j, i ≤ j ∧ j < i + d ∧ m ∈ g j
  | 0, i => by simp [each]; omega
  | d + 1, i => by
    rw [each, List.mem_append, each_mem g m d (i + 1)]
    constructor
    · rintro (h | ⟨j, h1, h2, h3⟩)
      · exact ⟨i, by omega, by omega, h⟩
      · exact ⟨j, by omega, by omega, h3⟩
    · rintro ⟨j, h1, h2, h3⟩
      by_cases e : j = i
      · subst e; exact .inl h3
      · exact .inr ⟨j, by omega, by omega, h3⟩
theorem rd_drop (l : List S58) (i : Nat) (hi : i < l.length) : l.drop i = rd_T58 l (i : Int) :: l.drop (i + 1) := by
  rw [List.drop_eq_getElem_cons hi]
  unfold rd_T58
  rw [Int.toNat_natCast, List.getD_eq_getElem?_getD, List.getElem?_eq_getElem hi]
  rfl
end Go.Proofs.Ytpelhinjoambfaa.XD
