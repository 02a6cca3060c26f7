/- Moves on a ring, for the reference and for the program: for all rings of 3 to 9 signs. -/
import Derived.Test.YtpelhinjoambfaaXC0
import Derived.Test.YtpelhinjoambfaaXC1
import Derived.Test.YtpelhinjoambfaaXC2
import Derived.Test.YtpelhinjoambfaaXC5
import Derived.Test.YtpelhinjoambfaaLCline0
import Derived.Test.YtpelhinjoambfaaLCcollect
namespace Go.Proofs.Ytpelhinjoambfaa.XC
set_option linter.unusedVariables false
set_option linter.unusedSimpArgs false
open Go Go.RowKit Go.Proofs.YtpelhinjoambfaaW.PrintWords Go.Proofs.YtpelhinjoambfaaB

def nx (n i : Int) : Int := if i + 1 = n then 0 else i + 1
def pv (n i : Int) : Int := if i = 0 then n - 1 else i - 1
theorem nx_in {n i : Int} (h0 : 0 ≤ i) (h1 : i < n) : 0 ≤ nx n i ∧ nx n i < n := by unfold nx; split <;> omega
theorem pv_in {n i : Int} (h0 : 0 ≤ i) (h1 : i < n) : 0 ≤ pv n i ∧ pv n i < n := by unfold pv; split <;> omega
theorem tm {x n : Int} (r q : Int) (h0 : 0 ≤ r) (h1 : r < n) (q0 : 0 ≤ q) (hx : x = r + n * q) : Int.tmod x n = r := by
  subst hx
  rw [Int.tmod_eq_emod_of_nonneg (Int.add_nonneg h0 (Int.mul_nonneg (by omega) q0)), Int.add_mul_emod_self_left, Int.emod_eq_of_lt h0 h1]
theorem tm_n1 {n i : Int} (h0 : 0 ≤ i) (h1 : i < n) : Int.tmod (i + 1) n = nx n i := by
  unfold nx
  split
  · exact tm 0 1 (by omega) (by omega) (by omega) (by omega)
  · exact tm (i + 1) 0 (by omega) (by omega) (by omega) (by omega)
theorem tm_p1 {n i : Int} (h0 : 0 ≤ i) (h1 : i < n) : Int.tmod (i + (n - 1)) n = pv n i := by
  unfold pv
  split
  · exact tm (n - 1) 0 (by omega) (by omega) (by omega) (by omega)
  · exact tm (i - 1) 1 (by omega) (by omega) (by omega) (by omega)
theorem tm_n1' {n i : Int} (h0 : 0 ≤ i) (h1 : i < n) : Int.tmod (i + 1 + n) n = nx n i := by
  unfold nx
  split
  · exact tm 0 2 (by omega) (by omega) (by omega) (by omega)
  · exact tm (i + 1) 1 (by omega) (by omega) (by omega) (by omega)
theorem tm_p1' {n i : Int} (h0 : 0 ≤ i) (h1 : i < n) : Int.tmod (i + (-1) + n) n = pv n i := by
  unfold pv
  split
  · exact tm (n - 1) 0 (by omega) (by omega) (by omega) (by omega)
  · exact tm (i - 1) 1 (by omega) (by omega) (by omega) (by omega)
theorem tm_n2 {n i : Int} (h0 : 0 ≤ i) (h1 : i < n) (hn : 3 ≤ n) : Int.tmod (i + 2 + 2 * n) n = nx n (nx n i) := by
  unfold nx
  by_cases e : i + 1 = n
  · rw [if_pos e, if_neg (by omega)]
    exact tm (0 + 1) 3 (by omega) (by omega) (by omega) (by omega)
  · rw [if_neg e]
    split
    · exact tm 0 3 (by omega) (by omega) (by omega) (by omega)
    · exact tm (i + 1 + 1) 2 (by omega) (by omega) (by omega) (by omega)
theorem tm_p2 {n i : Int} (h0 : 0 ≤ i) (h1 : i < n) (hn : 3 ≤ n) : Int.tmod (i + (-2) + 2 * n) n = pv n (pv n i) := by
  unfold pv
  by_cases e : i = 0
  · rw [if_pos e, if_neg (by omega)]
    exact tm (n - 1 - 1) 1 (by omega) (by omega) (by omega) (by omega)
  · rw [if_neg e]
    split
    · exact tm (n - 1) 1 (by omega) (by omega) (by omega) (by omega)
    · exact tm (i - 1 - 1) 2 (by omega) (by omega) (by omega) (by omega)
/-- where the stone of a place goes, if it can -/
def rgoal (a : ByteArray) (i : Int) : Option Int :=
  if bt a i = 84 then (if bt a (nx a.size i) = 46 then some (nx a.size i) else if bt a (nx a.size i) = 70 then (if bt a (nx a.size (nx a.size i)) = 46 then some (nx a.size (nx a.size i)) else none) else none)
  else if bt a i = 70 then (if bt a (pv a.size i) = 46 then some (pv a.size i) else if bt a (pv a.size i) = 84 then (if bt a (pv a.size (pv a.size i)) = 46 then some (pv a.size (pv a.size i)) else none) else none)
  else none
theorem rgoal_in {a : ByteArray} {i t : Int} (h0 : 0 ≤ i) (h1 : i < (a.size : Int)) (h : rgoal a i = some t) : 0 ≤ t ∧ t < (a.size : Int) := by
  have n1 := nx_in h0 h1
  have n2 := nx_in n1.1 n1.2
  have p1 := pv_in h0 h1
  have p2 := pv_in p1.1 p1.2
  unfold rgoal at h
  repeat' split at h
  all_goals first | (cases h; done) | (injection h with h; subst h; omega)
def rcan (a : ByteArray) (f t : Int) : Bool := decide (0 ≤ f ∧ f < (a.size : Int)) && (rgoal a f == some t)
theorem ciCan_eq (a : ByteArray) (hs3 : 3 ≤ a.size) (hs : a.size ≤ 9) (f t : Int) (k : Nat) (hk : 1 ≤ k) : spec_ciCan.f k a f t = some (rcan a f t) := by
  obtain ⟨k, rfl⟩ : ∃ m, k = m + 1 := ⟨k - 1, by omega⟩
  unfold spec_ciCan.f rcan
  have e : wrap64 ((a.size : Int) - 1) = (a.size : Int) - 1 := w64 (by omega) (by omega)
  rw [e, l1In_eq, l1In_eq]
  simp only [Option.bind_some, spec_ciCan.j0]
  by_cases hf : 0 ≤ f ∧ f ≤ (a.size : Int) - 1
  case neg =>
    rw [if_neg (by simp; omega), if_pos trivial, decide_eq_false (fun h => hf ⟨h.1, by omega⟩), Bool.false_and]
  have f1 : f < (a.size : Int) := by omega
  rw [if_pos (by simp; omega), decide_eq_true (show 0 ≤ f ∧ f < (a.size : Int) from ⟨hf.1, f1⟩), Bool.true_and]
  by_cases ht : 0 ≤ t ∧ t ≤ (a.size : Int) - 1
  case neg =>
    rw [if_neg (by simp; omega), if_pos trivial]
    have : rgoal a f ≠ some t := fun h => by
      have := rgoal_in hf.1 f1 h
      omega
    simp [this]
  have t1 : t < (a.size : Int) := by omega
  rw [if_pos (by simp; omega), if_pos ht.1, if_pos t1]
  have n1 := nx_in hf.1 f1
  have n2 := nx_in n1.1 n1.2
  have p1 := pv_in hf.1 f1
  have p2 := pv_in p1.1 p1.2
  rw [e, w64 (x := f + 1) (by omega) (by omega), w64 (x := f + ((a.size : Int) - 1)) (by omega) (by omega), tm_n1 hf.1 f1, tm_p1 hf.1 f1, w64 (x := nx a.size f + 1) (by omega) (by omega), w64 (x := pv a.size f + ((a.size : Int) - 1)) (by omega) (by omega), tm_n1 n1.1 n1.2, tm_p1 p1.1 p1.2]
  by_cases h46 : bt a t = 46
  case neg =>
    rw [if_pos (by simpa using h46)]
    have : rgoal a f ≠ some t := fun h => by
      unfold rgoal at h
      repeat' split at h
      all_goals first | (cases h; done) | (injection h with h; subst h; contradiction)
    simp [this]
  rw [show (bt a t != 46) = false from by simp [h46], if_neg (by decide), if_pos hf.1, if_pos f1]
  unfold rgoal
  by_cases c84 : bt a f = 84
  · rw [if_pos c84, if_pos c84, if_neg (by omega)]
    by_cases q1 : t = nx a.size f
    · rw [if_pos q1, ← q1, if_pos h46]
      simp
    · rw [if_neg q1, if_pos n1.1, if_pos n1.2]
      by_cases q2 : bt a (nx a.size f) = 70
      · rw [if_pos q2, if_neg (by rw [q2]; decide), if_pos q2]
        by_cases q3 : t = nx a.size (nx a.size f)
        · rw [← q3, if_pos h46]
          simp
        · split
          · rw [beq_eq_false_iff_ne.2 q3, beq_eq_false_iff_ne.2 (fun h => q3 (Option.some.inj h).symm)]
          · simp [q3]
      · rw [if_neg q2, if_neg q2]
        split
        · simp [Ne.symm q1]
        · simp
  · rw [if_neg c84, if_neg c84]
    by_cases c70 : bt a f = 70
    · rw [if_pos c70, if_pos c70, if_neg (by omega)]
      by_cases q1 : t = pv a.size f
      · rw [if_pos q1, ← q1, if_pos h46]
        simp
      · rw [if_neg q1, if_pos p1.1, if_pos p1.2]
        by_cases q2 : bt a (pv a.size f) = 84
        · rw [if_pos q2, if_neg (by rw [q2]; decide), if_pos q2]
          by_cases q3 : t = pv a.size (pv a.size f)
          · rw [← q3, if_pos h46]
            simp
          · split
            · rw [beq_eq_false_iff_ne.2 q3, beq_eq_false_iff_ne.2 (fun h => q3 (Option.some.inj h).symm)]
            · simp [q3]
        · rw [if_neg q2, if_neg q2]
          split
          · simp [Ne.symm q1]
          · simp
    · rw [if_neg c70, if_neg c70]
      simp
def rmove (a : ByteArray) (i : Nat) : List S58 := match rgoal a (i : Int) with | some t => [⟨(i : Int), t⟩] | none => []
/-- the moves on a ring -/
def rmoves (a : ByteArray) : List S58 := each (rmove a) a.size 0
theorem rmove_length (a : ByteArray) (i : Nat) : (rmove a i).length ≤ 1 := by unfold rmove; split <;> simp
theorem rmoves_length (a : ByteArray) : (rmoves a).length ≤ a.size := by
  have := each_length (rmove a) 1 (rmove_length a) a.size 0
  unfold rmoves
  omega
theorem rmoves_mem (a : ByteArray) (f t : Int) : (⟨f, t⟩ : S58) ∈ rmoves a ↔ rcan a f t = true := by
  unfold rmoves rcan
  rw [each_mem]
  simp only [Bool.and_eq_true, decide_eq_true_eq, beq_iff_eq]
  constructor
  · rintro ⟨j, _, h2, h3⟩
    unfold rmove at h3
    split at h3
    · rename_i u hu
      simp only [List.mem_singleton, S58.mk.injEq] at h3
      obtain ⟨rfl, rfl⟩ := h3
      exact ⟨by omega, hu⟩
    · cases h3
  · rintro ⟨⟨h0, h1⟩, h2⟩
    refine ⟨f.toNat, by omega, by omega, ?_⟩
    unfold rmove
    rw [Int.toNat_of_nonneg h0, h2]
    simp
theorem wr1 {n i : Int} (h0 : 0 ≤ i) (h1 : i < n) (hn : n ≤ 9) : wrap64 (wrap64 (i + 1) + n) = i + 1 + n := by unfold wrap64; omega
theorem wr2 {n i : Int} (h0 : 0 ≤ i) (h1 : i < n) (hn : n ≤ 9) : wrap64 (wrap64 (i + -1) + n) = i + -1 + n := by unfold wrap64; omega
theorem wr3 {n i : Int} (h0 : 0 ≤ i) (h1 : i < n) (hn : n ≤ 9) : wrap64 (wrap64 (i + wrap64 (2 * 1)) + wrap64 (2 * n)) = i + 2 + 2 * n := by unfold wrap64; omega
theorem wr4 {n i : Int} (h0 : 0 ≤ i) (h1 : i < n) (hn : n ≤ 9) : wrap64 (wrap64 (i + wrap64 (2 * -1)) + wrap64 (2 * n)) = i + -2 + 2 * n := by unfold wrap64; omega
theorem rmove_some {a : ByteArray} {i : Nat} {t : Int} (h : rgoal a (i : Int) = some t) : rmove a i = [⟨(i : Int), t⟩] := by unfold rmove; rw [h]
theorem rmove_none {a : ByteArray} {i : Nat} (h : rgoal a (i : Int) = none) : rmove a i = [] := by unfold rmove; rw [h]
theorem ringMoves_l0 (a : ByteArray) (hs3 : 3 ≤ a.size) (hs : a.size ≤ 9) : ∀ (d i k : Nat) (l : List S58), i + d = a.size → d < k → l.length ≤ i → impl_ringMoves.l0 k a l (a.size : Int) (a.size : Int) (i : Int) = some (l ++ each (rmove a) d i) := by
  intro d
  induction d with
  | zero =>
    intro i k l hi hk hl
    obtain ⟨k, rfl⟩ : ∃ m, k = m + 1 := ⟨k - 1, by omega⟩
    simp only [impl_ringMoves.l0]
    rw [if_neg (by omega), each, List.append_nil]
  | succ d ih =>
    intro i k l hi hk hl
    obtain ⟨k, rfl⟩ : ∃ m, k = m + 1 := ⟨k - 1, by omega⟩
    have f0 : (0 : Int) ≤ (i : Int) := by omega
    have f1 : (i : Int) < (a.size : Int) := by omega
    have n1 := nx_in f0 f1
    have n2 := nx_in n1.1 n1.2
    have p1 := pv_in f0 f1
    have p2 := pv_in p1.1 p1.2
    have skip := ih (i + 1) k l (by omega) (by omega) (by omega)
    have add := fun t : Int => ih (i + 1) k (l ++ [⟨(i : Int), t⟩]) (by omega) (by omega) (by rw [List.length_append]; simp; omega)
    simp only [impl_ringMoves.l0]
    rw [if_pos f1, if_pos f0, if_pos f1, each, w64_succ (n := a.size) (by omega) (by omega)]
    unfold impl_stepOf.f impl_other.f
    have z1 : ¬ (a.size : Int) = 0 := by omega
    have z2 : l.length < 8796093022208 := by omega
    have hn9 : (a.size : Int) ≤ 9 := by omega
    have hn3 : (3 : Int) ≤ (a.size : Int) := by omega
    have w1 := wr1 f0 f1 hn9
    have w2 := wr2 f0 f1 hn9
    have w3 := wr3 f0 f1 hn9
    have w4 := wr4 f0 f1 hn9
    by_cases c84 : bt a (i : Int) = 84
    · rw [if_pos c84]
      simp only [Option.bind_some]
      rw [if_neg z1, if_neg (by decide), w1, w3, tm_n1' f0 f1, tm_n2 f0 f1 hn3, if_pos n1.1, if_pos n1.2]
      by_cases q1 : bt a (nx a.size i) = 46
      · rw [if_pos q1, if_pos z2, add, rmove_some (t := nx a.size i) (by unfold rgoal; rw [if_pos c84, if_pos q1]), List.append_assoc]
      · rw [if_neg q1, if_pos c84]
        simp only [Option.bind_some]
        by_cases q2 : bt a (nx a.size i) = 70
        · rw [if_pos q2, if_pos n2.1, if_pos n2.2]
          by_cases q3 : bt a (nx a.size (nx a.size i)) = 46
          · rw [if_pos q3, if_pos z2, add, rmove_some (t := nx a.size (nx a.size i)) (by unfold rgoal; rw [if_pos c84, if_neg q1, if_pos q2, if_pos q3]), List.append_assoc]
          · rw [if_neg q3, skip, rmove_none (by unfold rgoal; rw [if_pos c84, if_neg q1, if_pos q2, if_neg q3]), List.nil_append]
        · rw [if_neg q2, skip, rmove_none (by unfold rgoal; rw [if_pos c84, if_neg q1, if_neg q2]), List.nil_append]
    · rw [if_neg c84]
      by_cases c70 : bt a (i : Int) = 70
      · rw [if_pos c70]
        simp only [Option.bind_some]
        rw [if_neg z1, if_neg (by decide), w2, w4, tm_p1' f0 f1, tm_p2 f0 f1 hn3, if_pos p1.1, if_pos p1.2]
        by_cases q1 : bt a (pv a.size i) = 46
        · rw [if_pos q1, if_pos z2, add, rmove_some (t := pv a.size i) (by unfold rgoal; rw [if_neg c84, if_pos c70, if_pos q1]), List.append_assoc]
        · rw [if_neg q1, if_neg c84, if_pos c70]
          simp only [Option.bind_some]
          by_cases q2 : bt a (pv a.size i) = 84
          · rw [if_pos q2, if_pos p2.1, if_pos p2.2]
            by_cases q3 : bt a (pv a.size (pv a.size i)) = 46
            · rw [if_pos q3, if_pos z2, add, rmove_some (t := pv a.size (pv a.size i)) (by unfold rgoal; rw [if_neg c84, if_pos c70, if_neg q1, if_pos q2, if_pos q3]), List.append_assoc]
            · rw [if_neg q3, skip, rmove_none (by unfold rgoal; rw [if_neg c84, if_pos c70, if_neg q1, if_pos q2, if_neg q3]), List.nil_append]
          · rw [if_neg q2, skip, rmove_none (by unfold rgoal; rw [if_neg c84, if_pos c70, if_neg q1, if_neg q2]), List.nil_append]
      · rw [if_neg c70]
        simp only [Option.bind_some]
        rw [if_neg z1, if_pos trivial, skip, rmove_none (by unfold rgoal; rw [if_neg c84, if_neg c70]), List.nil_append]
theorem impl_ringMoves_eq (a : ByteArray) (hs3 : 3 ≤ a.size) (hs : a.size ≤ 9) (k : Nat) (hk : 20 ≤ k) : impl_ringMoves.f k a = some (rmoves a) :=
  ringMoves_l0 a hs3 hs a.size 0 k [] (by omega) (by omega) (by simp)
end Go.Proofs.Ytpelhinjoambfaa.XC
