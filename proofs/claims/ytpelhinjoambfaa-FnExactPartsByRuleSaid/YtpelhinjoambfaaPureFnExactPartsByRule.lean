/- FnExactPartsByRule without Go: for all numbers and all rules, the program's PartsByRule is the reference's. -/
import Derived.Test.YtpelhinjoambfaaLPall
import Derived.Test.YtpelhinjoambfaaXP1
import Derived.Test.YtpelhinjoambfaaXP10
import Derived.Test.YtpelhinjoambfaaXP12
import Derived.Test.YtpelhinjoambfaaXP15
import Derived.Test.YtpelhinjoambfaaXP16
import Derived.Test.YtpelhinjoambfaaXP2
import Derived.Test.YtpelhinjoambfaaXP6
namespace Go.Proofs.Ytpelhinjoambfaa.Pure
set_option linter.unusedVariables false
set_option linter.unusedSimpArgs false
open Go Go.RowKit Go.Proofs.YtpelhinjoambfaaW.PrintWords Go.Proofs.Ytpelhinjoambfaa.XP Go.Proofs.YtpelhinjoambfaaB Go.Proofs.Ytpelhinjoambfaa.Ranks
theorem parts_same (t g f : Nat) (h1 : 1 ≤ t + g + f) (h : t + g + f ≤ 8) (o b l : Bool) : ∃ (U : ByteArray → ByteArray) (q : Nat) (P : List Int), Uf.outG 200000000 (mvI o b l) mkI (okI (linesAt (t + g + f) t g f [])) (linesAt (t + g + f) t g f []) (fun x => x) (linesAt (t + g + f) t g f []).length = some (U, q) ∧ Uf.outP (fun s => spec_ruMoves.f 3000 s o b l) rkS 0 (linesAt (t + g + f) t g f []) (Uf.iota (linesAt (t + g + f) t g f []).length) = some P ∧ q = Uf.fixes (linesAt (t + g + f) t g f []).length P := by
  have hM := M_small (t := t) (g := g) (f := f) (by omega)
  have hlen := linesAt_length (t + g + f) t g f [] rfl (by omega)
  obtain ⟨U, q, P, e1, e2, _, e3⟩ := Uf.parts_both 200000000 (linesAt_nodup t g f (by omega)) (mvI o b l) (fun s => spec_ruMoves.f 3000 s o b l) mkI (okI (linesAt (t + g + f) t g f [])) rkS (fun x => bmoves x o b l) (fun x m => mv x m.f0 m.f1) (fun x m => rank (mv x m.f0 m.f1).data.toList) 100 (by omega) (fun x hx => by
    obtain ⟨s1, s3⟩ := linesAt_in (pre := []) rfl hx
    rw [List.length_nil, Nat.zero_add] at s1
    have hb := bmoves_length x o b l
    refine ⟨movesBy_eq x (by omega) (by omega) s3 o b l 2000 (by omega), ruMoves_eq x (by omega) (by omega) s3 o b l 3000 (by omega), hb, by omega, fun m hm => ?_⟩
    obtain ⟨m1, m2, m3, m4⟩ := mv_there t g f h1 h o b l hx hm
    have hsz := (isLine_size m3).2.1
    refine ⟨m2, Pm.inN_iff.2 (List.mem_of_getElem? m4), ?_, m4⟩
    unfold rkS
    rw [m1, Option.bind_some, spec_rkl _ (by omega) 2000 (by omega), Option.bind_some]
    unfold rklA
    rw [if_pos m3])
  exact ⟨U, q, P, e1, e2, e3⟩
theorem parts_both (x y z : Int) (o b l : Bool) : ∃ r : Int × Bool, spec_PartsByRule.f x y z o b l = some r ∧ impl_PartsByRule.f x y z o b l = some r := by
  unfold spec_PartsByRule.f impl_PartsByRule.f spec_ruThree.f
  rw [spec_three3 x y z 1000 (by omega), impl_three3 x y z 8]
  simp only [Option.bind_some]
  cases h : threeB 12 x y z with
  | false =>
    have h8 : threeB 8 x y z = false := by
      cases h8 : threeB 8 x y z with
      | false => rfl
      | true =>
        obtain ⟨t, g, f, rfl, rfl, rfl, h1, h9⟩ := threeB_is (by decide) h8
        have hw : wrap64 (wrap64 ((t : Int) + g) + f) = (t : Int) + g + f := w_sum3 t g f (by omega)
        have : threeB 12 (t : Int) (g : Int) (f : Int) = true := by
          unfold threeB
          rw [hw, decide_eq_true (show (0 : Int) ≤ t ∧ (t : Int) ≤ 12 by omega), decide_eq_true (show (0 : Int) ≤ g ∧ (g : Int) ≤ 12 by omega), decide_eq_true (show (0 : Int) ≤ f ∧ (f : Int) ≤ 12 by omega), decide_eq_true (show (1 : Int) ≤ (t : Int) + g + f ∧ (t : Int) + g + f ≤ 12 by omega)]
          rfl
        rw [this] at h
        cases h
    rw [h8]
    exact ⟨_, rfl, rfl⟩
  | true =>
    obtain ⟨t, g, f, rfl, rfl, rfl, h1, h9⟩ := threeB_is (by decide) h
    have hw : wrap64 (wrap64 ((t : Int) + g) + f) = (t : Int) + g + f := w_sum3 t g f (by omega)
    rw [hw, if_pos (show true = true from rfl)]
    simp only [Option.bind_some]
    by_cases h8 : t + g + f ≤ 8
    · have e1 : decide ((t : Int) + g + f ≤ 8) = true := decide_eq_true (by omega)
      have e2 : threeB 8 (t : Int) (g : Int) (f : Int) = true := by
        unfold threeB
        rw [hw, decide_eq_true (show (0 : Int) ≤ t ∧ (t : Int) ≤ 8 by omega), decide_eq_true (show (0 : Int) ≤ g ∧ (g : Int) ≤ 8 by omega), decide_eq_true (show (0 : Int) ≤ f ∧ (f : Int) ≤ 8 by omega), decide_eq_true (show (1 : Int) ≤ (t : Int) + g + f ∧ (t : Int) + g + f ≤ 8 by omega)]
        rfl
      have hI : 0 ≤ (t : Int) ∧ 0 ≤ (g : Int) ∧ 0 ≤ (f : Int) ∧ (t : Int) + (g : Int) + (f : Int) ≤ 12 := ⟨by omega, by omega, by omega, by omega⟩
      have hMs := M_small (t := t) (g := g) (f := f) (by omega)
      have hMp := M_pos (t := t) (g := g) (f := f) (by omega)
      have hlen := linesAt_length (t + g + f) t g f [] rfl (by omega)
      have hsz : ∀ s ∈ linesAt (t + g + f) t g f [], s.size ≤ 1000 := fun s hs => by
        obtain ⟨g1, _⟩ := linesAt_in (pre := []) rfl hs
        rw [List.length_nil, Nat.zero_add] at g1
        omega
      obtain ⟨U, q, P, p1, p2, p3⟩ := parts_same t g f h1 h8 o b l
      rw [e1, e2, if_pos (show true = true from rfl), if_pos (show true = true from rfl), if_pos hI, Int.toNat_natCast, Int.toNat_natCast, Int.toNat_natCast, if_pos ⟨linesAt_nodup t g f (by omega), hsz, by omega⟩, ruLines_eq t g f h1 (by omega) 2000000 (by omega), p1]
      simp only [Option.bind_some]
      rw [if_pos ⟨by omega, by omega⟩, p2]
      simp only [Option.bind_some]
      rw [← p3]
      exact ⟨_, rfl, rfl⟩
    · have e1 : decide ((t : Int) + g + f ≤ 8) = false := decide_eq_false (by omega)
      have e2 : threeB 8 (t : Int) (g : Int) (f : Int) = false := by
        cases h8' : threeB 8 (t : Int) (g : Int) (f : Int) with
        | false => rfl
        | true =>
          obtain ⟨t', g', f', e3, e4, e5, _, h7⟩ := threeB_is (by decide) h8'
          omega
      rw [e1, e2]
      exact ⟨_, rfl, rfl⟩
theorem FnExactPartsByRule (x y z : Int) (o b l : Bool) (hx : (Lit.int .i64 x).wf = true) (hy : (Lit.int .i64 y).wf = true) (hz : (Lit.int .i64 z).wf = true) : laws_FnExactPartsByRule.f x y z o b l = some true := by
  obtain ⟨r, h1, h2⟩ := parts_both x y z o b l
  unfold laws_FnExactPartsByRule.f
  rw [show laws_toRule.f o b l = some (o, b, l) from rfl]
  simp only [Option.bind_some]
  rw [h1, h2]
  simp
end Go.Proofs.Ytpelhinjoambfaa.Pure
