/- All lines with so many of each: how long they are, and how many. Plain facts. -/
import Derived.Test.YtpelhinjoambfaaB
import Derived.Test.YtpelhinjoambfaaRanks
import Derived.Test.YtpelhinjoambfaaXD5
import Derived.Test.YtpelhinjoambfaaXD7
namespace Go.Proofs.Ytpelhinjoambfaa.XD
set_option linter.unusedVariables false
set_option linter.unusedSimpArgs false
open Go Go.RowKit Go.Proofs.YtpelhinjoambfaaW.PrintWords Go.Proofs.YtpelhinjoambfaaB Go.Proofs.Ytpelhinjoambfaa.Ranks

theorem enum_in : ∀ (n t g f : Nat) (l : List UInt8), l ∈ enum n t g f → l.length = n ∧ l.all sgn = true
  | 0, _, _, _, l, h => by
    rw [enum, List.mem_singleton] at h
    subst h
    exact ⟨rfl, rfl⟩
  | n + 1, t, g, f, l, h => by
    have key : ∀ (b : UInt8) (t' g' f' : Nat), sgn b = true → l ∈ (enum n t' g' f').map (b :: ·) → l.length = n + 1 ∧ l.all sgn = true := fun b t' g' f' hb hl => by
      obtain ⟨q, hq, rfl⟩ := List.mem_map.1 hl
      obtain ⟨h1, h2⟩ := enum_in n t' g' f' q hq
      exact ⟨by simp [h1], by simp [hb, h2]⟩
    rw [enum, List.mem_append, List.mem_append] at h
    rcases h with h | h | h
    · split at h
      · cases h
      · exact key 46 _ _ _ rfl h
    · split at h
      · cases h
      · exact key 70 _ _ _ rfl h
    · split at h
      · cases h
      · exact key 84 _ _ _ rfl h
theorem linesAt_in {n t g f : Nat} {pre : List UInt8} (hp : pre.all sgn = true) {s : ByteArray} (h : s ∈ linesAt n t g f pre) : s.size = pre.length + n ∧ s.data.toList.all sgn = true := by
  obtain ⟨l, hl, rfl⟩ := List.mem_map.1 h
  obtain ⟨h1, h2⟩ := enum_in n t g f l hl
  refine ⟨?_, ?_⟩
  · show (pre ++ l).toArray.size = _
    simp [h1]
  · show (pre ++ l).toArray.toList.all sgn = true
    simp only [List.toList_toArray, List.all_append, hp, h2, Bool.and_self]
theorem linesAt_length (n t g f : Nat) (pre : List UInt8) (hn : n = t + g + f) (h12 : n ≤ 12) : (linesAt n t g f pre).length = M t g f := by
  unfold linesAt
  rw [List.length_map, enum_eq n t g f hn h12, List.length_map, List.length_range]
theorem cntO_eq {c : ByteArray → Option Bool} {p : ByteArray → Bool} {L : List ByteArray} (h : ∀ s ∈ L, c s = some (p s)) : cntO c L = some (L.countP p) := by
  unfold cntO
  rw [if_pos (List.all_eq_true.2 fun s hs => by rw [h s hs]; rfl)]
  congr 1
  exact List.countP_congr fun s hs => by rw [h s hs]; simp
end Go.Proofs.Ytpelhinjoambfaa.XD
