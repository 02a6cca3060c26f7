/- The line with a rank, for the reference: for all numbers. -/
import Derived.Test.YtpelhinjoambfaaXD2
import Derived.Test.YtpelhinjoambfaaLDthree
import Derived.Test.YtpelhinjoambfaaLDmany
namespace Go.Proofs.Ytpelhinjoambfaa.XD
set_option linter.unusedVariables false
set_option linter.unusedSimpArgs false
open Go Go.RowKit Go.Proofs.YtpelhinjoambfaaW.PrintWords Go.Proofs.YtpelhinjoambfaaB Go.Proofs.Ytpelhinjoambfaa.Ranks
theorem lor_snoc (l : List UInt8) (c : UInt8) : (⟨l.toArray⟩ : ByteArray) ++ (⟨#[c]⟩ : ByteArray) = ⟨(l ++ [c]).toArray⟩ := by
  rw [← Lib.mk_data ((⟨l.toArray⟩ : ByteArray) ++ (⟨#[c]⟩ : ByteArray))]
  simp
theorem lor_size (l : List UInt8) : (⟨l.toArray⟩ : ByteArray).size = l.length := by simp [ByteArray.size]
theorem lor_l0 : ∀ (n t g f r k : Nat) (pre : List UInt8), n = t + g + f → n ≤ 12 → r < M t g f → pre.length + n ≤ 100 → n + 50 ≤ k →
    spec_LineOfRank.l0 k (t : Int) (g : Int) (f : Int) (r : Int) ⟨pre.toArray⟩ = some (⟨(pre ++ unrank n t g f r).toArray⟩, true) := by
  intro n
  induction n with
  | zero =>
    intro t g f r k pre hn _ _ _ hk
    obtain ⟨k, rfl⟩ : ∃ m, k = m + 1 := ⟨k - 1, by omega⟩
    obtain rfl : t = 0 := by omega
    obtain rfl : g = 0 := by omega
    obtain rfl : f = 0 := by omega
    simp only [spec_LineOfRank.l0]
    rw [if_neg (by decide +kernel), unrank, List.append_nil]
  | succ n ih =>
    intro t g f r k pre hn h12 hr hp hk
    obtain ⟨k, rfl⟩ : ∃ m, k = m + 1 := ⟨k - 1, by omega⟩
    have hrec := M_rec (t := t) (g := g) (f := f) (by omega) (by omega)
    have b1 := GG_le (t := t) (g := g) (f := f) (by omega)
    have b2 := FF_le (t := t) (g := g) (f := f) (by omega)
    have b3 := TT_le (t := t) (g := g) (f := f) (by omega)
    have z0 : (t : Int) + g + f > 0 := by omega
    have hsz : (⟨pre.toArray⟩ : ByteArray).size + 1 ≤ 9223372036854775807 := by rw [lor_size]; omega
    have g1 := many_GG t g f (by omega) k (by omega)
    have g2 := many_FF t g f (by omega) k (by omega)
    simp only [spec_LineOfRank.l0]
    rw [w_sum3 t g f (by omega), if_pos z0, w_pred g (by omega), w_pred f (by omega), w_pred t (by omega), g1, g2]
    simp only [Option.bind_some]
    rw [w_sum2 _ _ b1 b2, if_pos hsz, if_pos hsz, if_pos hsz, lor_snoc, lor_snoc, lor_snoc]
    conv => rhs; unfold unrank
    by_cases h1 : r < GG t g f
    · have hg : g ≠ 0 := by rintro rfl; simp [GG] at h1
      have e : GG t g f = M t (g - 1) f := by unfold GG; rw [if_neg hg]
      rw [if_pos (by omega), if_pos h1, show (g : Int) - 1 = ((g - 1 : Nat) : Int) from by omega, ih t (g - 1) f r k (pre ++ [46]) (by omega) (by omega) (by omega) (by simp; omega) (by omega), List.append_assoc]
      rfl
    · rw [if_neg (show ¬ (r : Int) < ((GG t g f : Nat) : Int) by omega), if_neg h1]
      by_cases h2 : r < GG t g f + FF t g f
      · have hf : f ≠ 0 := by rintro rfl; simp [FF] at h2; omega
        have e : FF t g f = M t g (f - 1) := by unfold FF; rw [if_neg hf]
        rw [if_pos (show (r : Int) < ((GG t g f + FF t g f : Nat) : Int) by omega), if_pos h2, w_sub r (GG t g f) (by omega) (by omega), show (f : Int) - 1 = ((f - 1 : Nat) : Int) from by omega, ih t g (f - 1) (r - GG t g f) k (pre ++ [70]) (by omega) (by omega) (by omega) (by simp; omega) (by omega), List.append_assoc]
        rfl
      · have ht : t ≠ 0 := by rintro rfl; simp [TT] at hrec; omega
        have e : TT t g f = M (t - 1) g f := by unfold TT; rw [if_neg ht]
        rw [if_neg (show ¬ (r : Int) < ((GG t g f + FF t g f : Nat) : Int) by omega), if_neg h2, w_sub r (GG t g f + FF t g f) (by omega) (by omega), Nat.sub_sub, show (t : Int) - 1 = ((t - 1 : Nat) : Int) from by omega, ih (t - 1) g f (r - (GG t g f + FF t g f)) k (pre ++ [84]) (by omega) (by omega) (by omega) (by simp; omega) (by omega), List.append_assoc]
        rfl
/-- what both answer -/
def lorA (x y z r : Int) : ByteArray × Bool :=
  if threeB 12 x y z = true ∧ 0 ≤ r ∧ r < ((M x.toNat y.toNat z.toNat : Nat) : Int) then (⟨(unrank (x.toNat + y.toNat + z.toNat) x.toNat y.toNat z.toNat r.toNat).toArray⟩, true) else (⟨#[]⟩, false)
theorem spec_lor (x y z r : Int) (k : Nat) (hk : 70 ≤ k) : spec_LineOfRank.f k x y z r = some (lorA x y z r) := by
  obtain ⟨k, rfl⟩ : ∃ m, k = m + 1 := ⟨k - 1, by omega⟩
  unfold spec_LineOfRank.f lorA
  rw [spec_three3 x y z (k + 1) (by omega)]
  simp only [Option.bind_some]
  cases h : threeB 12 x y z with
  | false =>
    rw [if_neg (by decide), if_neg (by simp)]
    simp only [spec_LineOfRank.j0]
    rfl
  | true =>
    obtain ⟨t, g, f, rfl, rfl, rfl, h1, h2⟩ := threeB_is (by omega) h
    have hb := M_small (t := t) (g := g) (f := f) (by omega)
    have hp := M_pos (t := t) (g := g) (f := f) (by omega)
    rw [if_pos rfl, many_eq t g f (by omega) (k + 1) (by omega)]
    simp only [Option.bind_some, Int.toNat_natCast, spec_LineOfRank.j0]
    rw [w_pred (M t g f) (by omega), in_eq3]
    simp only [Option.bind_some]
    by_cases hr : 0 ≤ r ∧ r ≤ ((M t g f : Nat) : Int) - 1
    · obtain ⟨r, rfl⟩ := Int.eq_ofNat_of_zero_le hr.1
      rw [decide_eq_true hr, if_neg (by decide), if_pos ⟨trivial, hr.1, by omega⟩, Int.toNat_natCast]
      have hl := lor_l0 (t + g + f) t g f r k [] rfl (by omega) (by omega) (by simp; omega) (by omega)
      rw [List.nil_append] at hl
      exact hl
    · rw [decide_eq_false hr, if_pos (by decide), if_neg (fun h => hr ⟨h.2.1, by omega⟩)]
end Go.Proofs.Ytpelhinjoambfaa.XD
