/- FnExactLinesBefore without Go: for every text that memory holds, the program's LinesBefore is the reference's, and what it returned stays as it was. -/
import Derived.Test.YtpfahibbmkcnoaaDoorLEbefore
import Derived.Test.YtpfahibbmkcnoaaDoorLEheldS
import Derived.Test.YtpfahibbmkcnoaaDoorXE5
import Derived.Test.YtpfahibbmkcnoaaDoorXE7
import Derived.Test.YtpfahibbmkcnoaaDoorXE9
namespace Go.Proofs.YtpfahibbmkcnoaaDoor.Pure
set_option linter.unusedVariables false
set_option linter.unusedSimpArgs false
open Go Go.RowKit Go.Proofs.YtpfahibbmkcnoaaDoorW.PrintWords Go.Proofs.YtpfahibbmkcnoaaDoor.XE Go.Proofs.YtpfahibbmkcnoaaDoorB Go.Proofs.YtpfahibbmkcnoaaDoor.Srts Go.Proofs.YtpfahibbmkcnoaaDoor.Sorts
theorem before_both (a : ByteArray) (hs : a.size ≤ 140737488351232) : ∃ (r : List ByteArray) (c : Bool), r.length ≤ 1000 ∧ ∀ k, 1900 ≤ k → spec_LinesBefore.f k a = some (r, c) ∧ impl_LinesBefore.f k a = some (r, c) := by
  cases hL : isLine 10 a with
  | false =>
    refine ⟨[], false, by simp, fun k hk => ?_⟩
    unfold spec_LinesBefore.f impl_LinesBefore.f
    rw [reFew_eq7 a hs k (by omega), impl_isReachLine_eq a hs, hL]
    simp only [Option.bind_some]
    exact ⟨rfl, rfl⟩
  | true =>
    obtain ⟨h1, h10, hl⟩ := isLine_size hL
    obtain ⟨F, f1, f2, f3, f4⟩ := before_l0 h1 h10 hl a.size 0 1900 [] (by omega) List.Pairwise.nil (by simp; omega) (by omega)
    obtain ⟨L, l1, l2, l3⟩ := ours_l0 h1 h10 hl a.size 0 1900 [] (by omega) (by simp; omega) (by omega)
    rw [show ((0 : Nat) : Int) = 0 from rfl] at f4 l3
    obtain ⟨c1, c2⟩ := compacted_srt (sorted_le L)
    have heq : compacted (sorted L) = F := srt_unique c1 f2 (fun v => by
      rw [c2, Go.Proofs.YtpfahibbmkcnoaaDoor.Sorts.mem_sorted, f3, l2]
      constructor
      · rintro (h | ⟨p, q, p1, p2, p3, p4⟩)
        · cases h
        · obtain ⟨⟨s1, s2⟩, _⟩ := same_before h10 hl p2 p4
          exact .inr ⟨p, q, p1, p2, s1, s2, p4⟩
      · rintro (h | ⟨p, q, p1, p2, p3, p3', p4⟩)
        · cases h
        · obtain ⟨_, s3⟩ := same_before h10 hl p2 p4
          exact .inr ⟨p, q, p1, p2, s3, p4⟩)
    refine ⟨F, true, by simp at f1; omega, fun k hk => ⟨?_, ?_⟩⟩
    · refine at_rounds (spec_LinesBefore.mono a) hk ?_
      unfold spec_LinesBefore.f
      rw [reFew_eq7 a hs 1900 (by omega), hL]
      simp only [Option.bind_some, if_true]
      exact f4
    · refine at_rounds (impl_LinesBefore.mono a) hk ?_
      unfold impl_LinesBefore.f
      rw [impl_isReachLine_eq a hs, hL, ← heq]
      simp only [Option.bind_some, if_true]
      exact l3
theorem FnExactLinesBefore (a : ByteArray) (hs : a.size ≤ 140737488351232) : ∃ k, laws_FnExactLinesBefore.f k a = some true := by
  refine ⟨2000, ?_⟩
  obtain ⟨r, c, hlr, hk⟩ := before_both a hs
  unfold laws_FnExactLinesBefore.f
  split
  · rfl
  rw [(hk 2000 (by omega)).1]
  simp only [Option.bind_some]
  rw [(hk 2000 (by omega)).2]
  simp only [Option.bind_some]
  rw [eqStringS_same r (by omega) 2000 (by omega)]
  simp only [Option.bind_some, if_true, bne_self_eq_false]
  simp only [laws_FnExactLinesBefore.j0]
  rw [if_neg (by decide)]
  obtain ⟨y, hm, hy, hj⟩ := markStringS_eq r (by omega) 1999 (by omega)
  rw [hm]
  simp only [Option.bind_some]
  rw [heldStringS_eq y (by omega) (fun j h => hj j (by omega)) 1999 (by omega)]
  simp only [Option.bind_some]
  rw [if_neg (by omega), if_pos (by rw [hy]), (hk 1999 (by omega)).2]
  simp only [Option.bind_some]
  rw [eqStringS_same r (by omega) 1999 (by omega)]
  simp only [Option.bind_some, if_true, bne_self_eq_false]
  simp only [laws_FnExactLinesBefore.j1]
  rw [if_neg (by decide), heldStringS_eq y (by omega) (fun j h => hj j (by omega)) 1998 (by omega)]
  simp only [Option.bind_some]
  rw [if_neg (by omega), if_pos (by rw [hy])]
end Go.Proofs.YtpfahibbmkcnoaaDoor.Pure
