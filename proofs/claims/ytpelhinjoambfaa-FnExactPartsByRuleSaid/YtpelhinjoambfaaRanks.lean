/- Lines with so many toads, gaps and frogs: how many there are, the line with a rank, the rank of a line, all of them in order. For all counts up to 12 together. -/
import Derived.Test.YtpelhinjoambfaaB
namespace Go.Proofs.Ytpelhinjoambfaa.Ranks
open Go Go.RowKit Go.Proofs.YtpelhinjoambfaaB

def fact : Nat → Nat
  | 0 => 1
  | n + 1 => (n + 1) * fact n
/-- how many lines have t toads, g gaps and f frogs -/
def M (t g f : Nat) : Nat := fact (t + g + f) / (fact t * fact g * fact f)
def GG (t g f : Nat) : Nat := if g = 0 then 0 else M t (g - 1) f
def FF (t g f : Nat) : Nat := if f = 0 then 0 else M t g (f - 1)
def TT (t g f : Nat) : Nat := if t = 0 then 0 else M (t - 1) g f
theorem M_table : ∀ a, a < 13 → ∀ b, b < 13 - a → ∀ c, c < 13 - a - b → (decide (M a b c = if a + b + c = 0 then 1 else GG a b c + FF a b c + TT a b c) && decide (1 ≤ M a b c) && decide (M a b c < 1000000)) = true := by decide +kernel
theorem M_rec {t g f : Nat} (h : 1 ≤ t + g + f) (h2 : t + g + f ≤ 12) : M t g f = GG t g f + FF t g f + TT t g f := by
  have z := M_table t (by omega) g (by omega) f (by omega)
  simp only [Bool.and_eq_true, decide_eq_true_eq] at z
  rw [z.1.1, if_neg (by omega)]
theorem M_pos {t g f : Nat} (h2 : t + g + f ≤ 12) : 1 ≤ M t g f := by
  have z := M_table t (by omega) g (by omega) f (by omega)
  simp only [Bool.and_eq_true, decide_eq_true_eq] at z
  exact z.1.2
theorem M_small {t g f : Nat} (h2 : t + g + f ≤ 12) : M t g f < 1000000 := by
  have z := M_table t (by omega) g (by omega) f (by omega)
  simp only [Bool.and_eq_true, decide_eq_true_eq] at z
  exact z.2
theorem GG_le {t g f : Nat} (h2 : t + g + f ≤ 12) : GG t g f < 1000000 := by
  unfold GG
  split
  · omega
  · exact M_small (by omega)
theorem FF_le {t g f : Nat} (h2 : t + g + f ≤ 12) : FF t g f < 1000000 := by
  unfold FF
  split
  · omega
  · exact M_small (by omega)
theorem TT_le {t g f : Nat} (h2 : t + g + f ≤ 12) : TT t g f < 1000000 := by
  unfold TT
  split
  · omega
  · exact M_small (by omega)

/-- the line with a rank -/
def unrank : Nat → Nat → Nat → Nat → Nat → List UInt8
  | 0, _, _, _, _ => []
  | n + 1, t, g, f, r =>
    if r < GG t g f then 46 :: unrank n t (g - 1) f r
    else if r < GG t g f + FF t g f then 70 :: unrank n t g (f - 1) (r - GG t g f)
    else 84 :: unrank n (t - 1) g f (r - GG t g f - FF t g f)
/-- the rank of a line -/
def rank : List UInt8 → Nat
  | [] => 0
  | c :: l => (if c = 46 then 0 else if c = 70 then GG ((c :: l).count 84) ((c :: l).count 46) ((c :: l).count 70) else GG ((c :: l).count 84) ((c :: l).count 46) ((c :: l).count 70) + FF ((c :: l).count 84) ((c :: l).count 46) ((c :: l).count 70)) + rank l
theorem sgn_cases {c : UInt8} (h : sgn c = true) : c = 46 ∨ c = 70 ∨ c = 84 := by
  unfold sgn at h
  simp only [Bool.or_eq_true, beq_iff_eq] at h
  rcases h with (h | h) | h
  · exact .inr (.inr h)
  · exact .inr (.inl h)
  · exact .inl h
theorem counts_len : ∀ {l : List UInt8}, l.all sgn = true → l.count 84 + l.count 46 + l.count 70 = l.length
  | [], _ => rfl
  | c :: l, h => by
    simp only [List.all_cons, Bool.and_eq_true] at h
    have ih := counts_len h.2
    rw [List.count_cons, List.count_cons, List.count_cons, List.length_cons]
    rcases sgn_cases h.1 with rfl | rfl | rfl <;> simp <;> omega
theorem rank_lt : ∀ (l : List UInt8), l.all sgn = true → l.length ≤ 12 → rank l < M (l.count 84) (l.count 46) (l.count 70)
  | [], _, _ => by decide
  | c :: l, h, hl => by
    have hc := counts_len h
    simp only [List.all_cons, Bool.and_eq_true] at h
    rw [List.length_cons] at hl hc
    have ih := rank_lt l h.2 (by omega)
    have hc2 := counts_len h.2
    rw [M_rec (by omega) (by omega)]
    unfold rank
    rcases sgn_cases h.1 with rfl | rfl | rfl
    · have e1 : (46 :: l : List UInt8).count 46 = l.count 46 + 1 := by simp
      have e2 : (46 :: l : List UInt8).count 84 = l.count 84 := by simp
      have e3 : (46 :: l : List UInt8).count 70 = l.count 70 := by simp
      rw [if_pos rfl, e1, e2, e3]
      have : GG (l.count 84) (l.count 46 + 1) (l.count 70) = M (l.count 84) (l.count 46) (l.count 70) := by unfold GG; rw [if_neg (by omega)]; rfl
      omega
    · have e1 : (70 :: l : List UInt8).count 46 = l.count 46 := by simp
      have e2 : (70 :: l : List UInt8).count 84 = l.count 84 := by simp
      have e3 : (70 :: l : List UInt8).count 70 = l.count 70 + 1 := by simp
      rw [if_neg (by decide), if_pos rfl, e1, e2, e3]
      have : FF (l.count 84) (l.count 46) (l.count 70 + 1) = M (l.count 84) (l.count 46) (l.count 70) := by unfold FF; rw [if_neg (by omega)]; rfl
      omega
    · have e1 : (84 :: l : List UInt8).count 46 = l.count 46 := by simp
      have e2 : (84 :: l : List UInt8).count 84 = l.count 84 + 1 := by simp
      have e3 : (84 :: l : List UInt8).count 70 = l.count 70 := by simp
      rw [if_neg (by decide), if_neg (by decide), e1, e2, e3]
      have : TT (l.count 84 + 1) (l.count 46) (l.count 70) = M (l.count 84) (l.count 46) (l.count 70) := by unfold TT; rw [if_neg (by omega)]; rfl
      omega
theorem unrank_rank : ∀ (l : List UInt8), l.all sgn = true → l.length ≤ 12 → unrank l.length (l.count 84) (l.count 46) (l.count 70) (rank l) = l
  | [], _, _ => rfl
  | c :: l, h, hl => by
    have hc := counts_len h
    simp only [List.all_cons, Bool.and_eq_true] at h
    rw [List.length_cons] at hl hc ⊢
    have ih := unrank_rank l h.2 (by omega)
    have hlt := rank_lt l h.2 (by omega)
    unfold unrank rank
    rcases sgn_cases h.1 with rfl | rfl | rfl
    · have e1 : (46 :: l : List UInt8).count 46 = l.count 46 + 1 := by simp
      have e2 : (46 :: l : List UInt8).count 84 = l.count 84 := by simp
      have e3 : (46 :: l : List UInt8).count 70 = l.count 70 := by simp
      rw [if_pos rfl, e1, e2, e3]
      have : GG (l.count 84) (l.count 46 + 1) (l.count 70) = M (l.count 84) (l.count 46) (l.count 70) := by unfold GG; rw [if_neg (by omega)]; rfl
      rw [if_pos (by omega), Nat.zero_add, Nat.add_sub_cancel, ih]
    · have e1 : (70 :: l : List UInt8).count 46 = l.count 46 := by simp
      have e2 : (70 :: l : List UInt8).count 84 = l.count 84 := by simp
      have e3 : (70 :: l : List UInt8).count 70 = l.count 70 + 1 := by simp
      rw [if_neg (show ¬ (70 : UInt8) = 46 by decide), if_pos rfl, e1, e2, e3]
      have : FF (l.count 84) (l.count 46) (l.count 70 + 1) = M (l.count 84) (l.count 46) (l.count 70) := by unfold FF; rw [if_neg (by omega)]; rfl
      rw [if_neg (by omega), if_pos (by omega), Nat.add_sub_cancel, Nat.add_sub_cancel_left, ih]
    · have e1 : (84 :: l : List UInt8).count 46 = l.count 46 := by simp
      have e2 : (84 :: l : List UInt8).count 84 = l.count 84 + 1 := by simp
      have e3 : (84 :: l : List UInt8).count 70 = l.count 70 := by simp
      rw [if_neg (show ¬ (84 : UInt8) = 46 by decide), if_neg (show ¬ (84 : UInt8) = 70 by decide), e1, e2, e3]
      rw [if_neg (by omega), if_neg (by omega), Nat.add_sub_cancel, Nat.sub_sub, Nat.add_sub_cancel_left, ih]
/-- what holds of the line with a rank -/
theorem unrank_is : ∀ (n t g f r : Nat), n = t + g + f → n ≤ 12 → r < M t g f →
    (unrank n t g f r).length = n ∧ (unrank n t g f r).all sgn = true ∧ (unrank n t g f r).count 84 = t ∧ (unrank n t g f r).count 46 = g ∧ (unrank n t g f r).count 70 = f ∧ rank (unrank n t g f r) = r
  | 0, t, g, f, r, hn, _, hr => by
    obtain rfl : t = 0 := by omega
    obtain rfl : g = 0 := by omega
    obtain rfl : f = 0 := by omega
    have : M 0 0 0 = 1 := by decide
    obtain rfl : r = 0 := by omega
    exact ⟨rfl, rfl, rfl, rfl, rfl, rfl⟩
  | n + 1, t, g, f, r, hn, h12, hr => by
    rw [M_rec (by omega) (by omega)] at hr
    unfold unrank
    by_cases h1 : r < GG t g f
    · rw [if_pos h1]
      have hg : g ≠ 0 := by rintro rfl; simp [GG] at h1
      have e : GG t g f = M t (g - 1) f := by unfold GG; rw [if_neg hg]
      obtain ⟨i1, i2, i3, i4, i5, i6⟩ := unrank_is n t (g - 1) f r (by omega) (by omega) (by omega)
      generalize unrank n t (g - 1) f r = l at *
      have c1 : (46 :: l : List UInt8).count 84 = t := by simp [i3]
      have c2 : (46 :: l : List UInt8).count 46 = g := by simp [i4]; omega
      have c3 : (46 :: l : List UInt8).count 70 = f := by simp [i5]
      refine ⟨by simp [i1], by simp [i2]; decide, c1, c2, c3, ?_⟩
      unfold rank
      rw [if_pos rfl, i6, Nat.zero_add]
    · rw [if_neg h1]
      by_cases h2 : r < GG t g f + FF t g f
      · rw [if_pos h2]
        have hf : f ≠ 0 := by rintro rfl; simp [FF] at h2; omega
        have e : FF t g f = M t g (f - 1) := by unfold FF; rw [if_neg hf]
        obtain ⟨i1, i2, i3, i4, i5, i6⟩ := unrank_is n t g (f - 1) (r - GG t g f) (by omega) (by omega) (by omega)
        generalize unrank n t g (f - 1) (r - GG t g f) = l at *
        have c1 : (70 :: l : List UInt8).count 84 = t := by simp [i3]
        have c2 : (70 :: l : List UInt8).count 46 = g := by simp [i4]
        have c3 : (70 :: l : List UInt8).count 70 = f := by simp [i5]; omega
        refine ⟨by simp [i1], by simp [i2]; decide, c1, c2, c3, ?_⟩
        unfold rank
        rw [if_neg (by decide), if_pos rfl, c1, c2, c3, i6]
        omega
      · rw [if_neg h2]
        have ht : t ≠ 0 := by rintro rfl; simp [TT] at hr; omega
        have e : TT t g f = M (t - 1) g f := by unfold TT; rw [if_neg ht]
        obtain ⟨i1, i2, i3, i4, i5, i6⟩ := unrank_is n (t - 1) g f (r - GG t g f - FF t g f) (by omega) (by omega) (by omega)
        generalize unrank n (t - 1) g f (r - GG t g f - FF t g f) = l at *
        have c1 : (84 :: l : List UInt8).count 84 = t := by simp [i3]; omega
        have c2 : (84 :: l : List UInt8).count 46 = g := by simp [i4]
        have c3 : (84 :: l : List UInt8).count 70 = f := by simp [i5]
        refine ⟨by simp [i1], by simp [i2]; decide, c1, c2, c3, ?_⟩
        unfold rank
        rw [if_neg (by decide), if_neg (by decide), c1, c2, c3, i6]
        omega
theorem less_cons (c : UInt8) (x y : List UInt8) : Op.bytesLess (c :: x) (c :: y) = Op.bytesLess x y := by
  simp [Op.bytesLess]
/-- lines with greater ranks stand behind -/
theorem unrank_less : ∀ (n t g f r r' : Nat), n = t + g + f → n ≤ 12 → r < r' → r' < M t g f → Op.bytesLess (unrank n t g f r) (unrank n t g f r') = true
  | 0, t, g, f, r, r', hn, _, hr, hr' => by
    obtain rfl : t = 0 := by omega
    obtain rfl : g = 0 := by omega
    obtain rfl : f = 0 := by omega
    have : M 0 0 0 = 1 := by decide
    omega
  | n + 1, t, g, f, r, r', hn, h12, hr, hr' => by
    rw [M_rec (by omega) (by omega)] at hr'
    unfold unrank
    have hg : r' < GG t g f → g ≠ 0 ∧ GG t g f = M t (g - 1) f := fun h => by
      have : g ≠ 0 := by rintro rfl; simp [GG] at h
      exact ⟨this, by unfold GG; rw [if_neg this]⟩
    by_cases h1 : r < GG t g f
    · rw [if_pos h1]
      by_cases k1 : r' < GG t g f
      · obtain ⟨a, b⟩ := hg k1
        rw [if_pos k1, less_cons]
        exact unrank_less n t (g - 1) f r r' (by omega) (by omega) hr (by omega)
      · rw [if_neg k1]
        split <;> simp [Op.bytesLess]
    · rw [if_neg h1, if_neg (show ¬ r' < GG t g f by omega)]
      by_cases h2 : r < GG t g f + FF t g f
      · rw [if_pos h2]
        by_cases k2 : r' < GG t g f + FF t g f
        · have hf : f ≠ 0 := by rintro rfl; simp [FF] at k2; omega
          have e : FF t g f = M t g (f - 1) := by unfold FF; rw [if_neg hf]
          rw [if_pos k2, less_cons]
          exact unrank_less n t g (f - 1) _ _ (by omega) (by omega) (by omega) (by omega)
        · rw [if_neg k2]
          simp [Op.bytesLess]
      · have ht : t ≠ 0 := by rintro rfl; simp [TT] at hr'; omega
        have e : TT t g f = M (t - 1) g f := by unfold TT; rw [if_neg ht]
        rw [if_neg h2, if_neg (show ¬ r' < GG t g f + FF t g f by omega), less_cons]
        exact unrank_less n (t - 1) g f _ _ (by omega) (by omega) (by omega) (by omega)
/-- all lines, in order -/
def enum : Nat → Nat → Nat → Nat → List (List UInt8)
  | 0, _, _, _ => [[]]
  | n + 1, t, g, f => (if g = 0 then [] else (enum n t (g - 1) f).map (46 :: ·)) ++ ((if f = 0 then [] else (enum n t g (f - 1)).map (70 :: ·)) ++ (if t = 0 then [] else (enum n (t - 1) g f).map (84 :: ·)))
theorem range_three (a b c : Nat) : List.range (a + b + c) = List.range a ++ ((List.range b).map (a + ·) ++ (List.range c).map (a + b + ·)) := by
  rw [List.range_add, List.range_add, List.append_assoc]
theorem enum_eq : ∀ (n t g f : Nat), n = t + g + f → n ≤ 12 → enum n t g f = (List.range (M t g f)).map (unrank n t g f)
  | 0, t, g, f, hn, _ => by
    obtain rfl : t = 0 := by omega
    obtain rfl : g = 0 := by omega
    obtain rfl : f = 0 := by omega
    have : M 0 0 0 = 1 := by decide
    rw [this]
    rfl
  | n + 1, t, g, f, hn, h12 => by
    rw [M_rec (by omega) (by omega), range_three, List.map_append, List.map_append, List.map_map, List.map_map]
    unfold enum
    congr 1
    · by_cases h : g = 0
      · subst h
        simp [GG]
      · rw [if_neg h, enum_eq n t (g - 1) f (by omega) (by omega), List.map_map]
        have e : GG t g f = M t (g - 1) f := by unfold GG; rw [if_neg h]
        rw [e]
        apply List.map_congr_left
        intro r hr
        rw [List.mem_range] at hr
        simp only [Function.comp]
        conv => rhs; unfold unrank
        rw [if_pos (by omega)]
    · congr 1
      · by_cases h : f = 0
        · subst h
          simp [FF]
        · rw [if_neg h, enum_eq n t g (f - 1) (by omega) (by omega), List.map_map]
          have e : FF t g f = M t g (f - 1) := by unfold FF; rw [if_neg h]
          rw [e]
          apply List.map_congr_left
          intro r hr
          rw [List.mem_range] at hr
          simp only [Function.comp]
          conv => rhs; unfold unrank
          rw [if_neg (by omega), if_pos (by omega), Nat.add_sub_cancel_left]
      · by_cases h : t = 0
        · subst h
          simp [TT]
        · rw [if_neg h, enum_eq n (t - 1) g f (by omega) (by omega), List.map_map]
          have e : TT t g f = M (t - 1) g f := by unfold TT; rw [if_neg h]
          rw [e]
          apply List.map_congr_left
          intro r hr
          rw [List.mem_range] at hr
          simp only [Function.comp]
          conv => rhs; unfold unrank
          rw [if_neg (by omega), if_neg (by omega), Nat.sub_sub, Nat.add_sub_cancel_left]
end Go.Proofs.Ytpelhinjoambfaa.Ranks
