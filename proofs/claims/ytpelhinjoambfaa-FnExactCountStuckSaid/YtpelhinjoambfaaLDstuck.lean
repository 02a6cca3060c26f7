/- All lines with so many of each by the reference, and how many of them are stuck. For 1 to 8 cells. -/
import Derived.Test.YtpelhinjoambfaaLDspeclor
import Derived.Test.YtpelhinjoambfaaLDlinesat
import Derived.Test.YtpelhinjoambfaaLDrumoves
import Derived.Test.YtpelhinjoambfaaXD2
import Derived.Test.YtpelhinjoambfaaXD4
import Derived.Test.YtpelhinjoambfaaXD5
namespace Go.Proofs.Ytpelhinjoambfaa.XD
set_option linter.unusedVariables false
set_option linter.unusedSimpArgs false
open Go Go.RowKit Go.Proofs.YtpelhinjoambfaaW.PrintWords Go.Proofs.YtpelhinjoambfaaB Go.Proofs.Ytpelhinjoambfaa.Ranks

def lineU (t g f r : Nat) : ByteArray := ⟨(unrank (t + g + f) t g f r).toArray⟩
theorem linesAt_ranks (t g f : Nat) (h : t + g + f ≤ 12) : linesAt (t + g + f) t g f [] = (List.range' 0 (M t g f)).map (lineU t g f) := by
  unfold linesAt
  rw [enum_eq (t + g + f) t g f rfl h, List.map_map, List.range_eq_range']
  apply List.map_congr_left
  intro r _
  rfl
theorem lorA_in (t g f r : Nat) (h1 : 1 ≤ t + g + f) (h : t + g + f ≤ 12) (hr : r < M t g f) : lorA (t : Int) (g : Int) (f : Int) (r : Int) = (lineU t g f r, true) := by
  unfold lorA lineU
  have hw : wrap64 (wrap64 ((t : Int) + g) + f) = (t : Int) + g + f := w_sum3 t g f (by omega)
  have h3 : threeB 12 (t : Int) (g : Int) (f : Int) = true := by
    unfold threeB
    rw [hw, decide_eq_true (show (0 : Int) ≤ t ∧ (t : Int) ≤ 12 by omega), decide_eq_true (show (0 : Int) ≤ g ∧ (g : Int) ≤ 12 by omega), decide_eq_true (show (0 : Int) ≤ f ∧ (f : Int) ≤ 12 by omega), decide_eq_true (show (1 : Int) ≤ (t : Int) + g + f ∧ (t : Int) + g + f ≤ 12 by omega)]
    rfl
  rw [if_pos ⟨h3, by omega, by rw [Int.toNat_natCast, Int.toNat_natCast, Int.toNat_natCast]; omega⟩]
  simp only [Int.toNat_natCast]
theorem ruLines_l0 (t g f : Nat) (h1 : 1 ≤ t + g + f) (h : t + g + f ≤ 12) : ∀ (d r k : Nat) (out : List ByteArray), r + d = M t g f → d + 100 < k → out.length = r →
    spec_ruLines.l0 k (t : Int) (g : Int) (f : Int) out (r : Int) = some (out ++ (List.range' r d).map (lineU t g f)) := by
  intro d
  have hM := M_small (t := t) (g := g) (f := f) h
  induction d with
  | zero =>
    intro r k out hr hk ho
    obtain ⟨k, rfl⟩ : ∃ m, k = m + 1 := ⟨k - 1, by omega⟩
    rw [spec_ruLines.l0, many_eq t g f h k (by omega), Option.bind_some, if_neg (by omega)]
    simp
  | succ d ih =>
    intro r k out hr hk ho
    obtain ⟨k, rfl⟩ : ∃ m, k = m + 1 := ⟨k - 1, by omega⟩
    rw [spec_ruLines.l0, many_eq t g f h k (by omega), Option.bind_some, if_pos (by omega), spec_lor _ _ _ _ k (by omega), Option.bind_some, lorA_in t g f r h1 h (by omega), if_pos (by omega), w64_succ (n := M t g f) (by omega) (by omega), ih (r + 1) k _ (by omega) (by omega) (by rw [List.length_append, List.length_singleton]; omega), List.range'_succ, List.map_cons, List.append_assoc, List.singleton_append]
theorem ruLines_eq (t g f : Nat) (h1 : 1 ≤ t + g + f) (h : t + g + f ≤ 12) (k : Nat) (hk : 1000200 ≤ k) : spec_ruLines.f k (t : Int) (g : Int) (f : Int) = some (linesAt (t + g + f) t g f []) := by
  unfold spec_ruLines.f
  have hM := M_small (t := t) (g := g) (f := f) h
  rw [linesAt_ranks t g f h]
  exact ruLines_l0 t g f h1 h (M t g f) 0 k [] (by omega) (by omega) rfl
def pStk (o b l : Bool) (s : ByteArray) : Bool := ((bmoves s o b l).length : Int) == 0
theorem stuck_l0 (o b l : Bool) (L : List ByteArray) (hL : L.length ≤ 1000000) (hin : ∀ s ∈ L, 1 ≤ s.size ∧ s.size ≤ 10 ∧ s.data.toList.all sgn = true) : ∀ (d i k n : Nat), i + d = L.length → d + 3000 < k → n ≤ i →
    spec_CountStuck.l0 k (n : Int) L (L.length : Int) (i : Int) o b l = some (((n + (L.drop i).countP (pStk o b l) : Nat) : Int), true) := by
  intro d
  induction d with
  | zero =>
    intro i k n hi hk hn
    obtain ⟨k, rfl⟩ : ∃ m, k = m + 1 := ⟨k - 1, by omega⟩
    rw [spec_CountStuck.l0, if_neg (by omega), List.drop_of_length_le (by omega)]
    rfl
  | succ d ih =>
    intro i k n hi hk hn
    obtain ⟨k, rfl⟩ : ∃ m, k = m + 1 := ⟨k - 1, by omega⟩
    have hil : i < L.length := by omega
    have hrd : rdOf ByteArray.empty L (i : Int) = L[i] := by
      unfold rdOf
      rw [Int.toNat_natCast, List.getD_eq_getElem?_getD, List.getElem?_eq_getElem hil]
      rfl
    obtain ⟨s1, s2, s3⟩ := hin L[i] (List.getElem_mem hil)
    rw [spec_CountStuck.l0, if_pos (by omega), if_pos (by omega), if_pos (by omega), hrd, ruMoves_eq L[i] s1 s2 s3 o b l k (by omega), Option.bind_some, w64_succ (n := L.length) hil (by omega), List.drop_eq_getElem_cons hil, List.countP_cons]
    by_cases hz : ((bmoves L[i] o b l).length : Int) = 0
    · have hp : pStk o b l L[i] = true := beq_iff_eq.2 hz
      rw [if_pos hz, hp, if_pos rfl, w64_succ (n := L.length) (by omega) (by omega), ih (i + 1) k (n + 1) (by omega) (by omega) (by omega)]
      congr 2
      omega
    · have hp : pStk o b l L[i] = false := beq_eq_false_iff_ne.2 hz
      rw [if_neg hz, hp, if_neg (by decide), ih (i + 1) k n (by omega) (by omega) (by omega)]
      rfl
end Go.Proofs.Ytpelhinjoambfaa.XD
