/- How many lines with so many of each are the first ones of all turned ones, and blocked: the reference's recursion counts what the program's walk over all lines counts. For 3 to 9 cells. -/
import Derived.Test.YtpelhinjoambfaaLCleast0
import Derived.Test.YtpelhinjoambfaaLCcimoves
import Derived.Test.YtpelhinjoambfaaRanks
import Derived.Test.YtpelhinjoambfaaXC1
import Derived.Test.YtpelhinjoambfaaXC3
import Derived.Test.YtpelhinjoambfaaXC4
import Derived.Test.YtpelhinjoambfaaXC5
namespace Go.Proofs.Ytpelhinjoambfaa.XC
set_option linter.unusedVariables false
set_option linter.unusedSimpArgs false
open Go Go.RowKit Go.Proofs.YtpelhinjoambfaaW.PrintWords Go.Proofs.YtpelhinjoambfaaB Go.Proofs.Ytpelhinjoambfaa.Ranks

theorem enum_in : ∀ (n t g f : Nat) (l : List UInt8), l ∈ enum n t g f → l.length = n ∧ l.all sgn = true
  | 0, _, _, _, l, h => by
    rw [enum, List.mem_singleton] at h
    subst h
    exact ⟨rfl, rfl⟩
  | n + 1, t, g, f, l, h => by
    have key : ∀ (b : UInt8) (t' g' f' : Nat), sgn b = true → l ∈ (enum n t' g' f').map (b :: ·) → l.length = n + 1 ∧ l.all sgn = true := fun b t' g' f' hb hl => by
      obtain ⟨q, hq, rfl⟩ := List.mem_map.1 hl
      obtain ⟨h1, h2⟩ := enum_in n t' g' f' q hq
      exact ⟨by simp [h1], by simp [hb, h2]⟩
    rw [enum, List.mem_append, List.mem_append] at h
    rcases h with h | h | h
    · split at h
      · cases h
      · exact key 46 _ _ _ rfl h
    · split at h
      · cases h
      · exact key 70 _ _ _ rfl h
    · split at h
      · cases h
      · exact key 84 _ _ _ rfl h
theorem linesAt_in {n t g f : Nat} {pre : List UInt8} (hp : pre.all sgn = true) {s : ByteArray} (h : s ∈ linesAt n t g f pre) : s.size = pre.length + n ∧ s.data.toList.all sgn = true := by
  obtain ⟨l, hl, rfl⟩ := List.mem_map.1 h
  obtain ⟨h1, h2⟩ := enum_in n t g f l hl
  refine ⟨?_, ?_⟩
  · show (pre ++ l).toArray.size = _
    simp [h1]
  · show (pre ++ l).toArray.toList.all sgn = true
    simp only [List.toList_toArray, List.all_append, hp, h2, Bool.and_self]
theorem linesAt_length (n t g f : Nat) (pre : List UInt8) (hn : n = t + g + f) (h12 : n ≤ 12) : (linesAt n t g f pre).length = M t g f := by
  unfold linesAt
  rw [List.length_map, enum_eq n t g f hn h12, List.length_map, List.length_range]
def lstOf (s : ByteArray) : ByteArray := (spec_ciLeast.f 1001 s).getD s
theorem least_eq (s : ByteArray) (hs : s.size ≤ 1000) (hl : s.data.toList.all sgn = true) : (∀ k, 1001 ≤ k → spec_ciLeast.f k s = some (lstOf s)) ∧ impl_leastRing.f 2000 s = some (lstOf s) := by
  obtain ⟨r, h1, _⟩ := least_both s hs hl s.size 0 1001 s (by omega) (by omega)
  have e1 : spec_ciLeast.f 1001 s = some r := h1
  have e2 : lstOf s = r := by unfold lstOf; rw [e1]; rfl
  have e3 : ∀ k, 1001 ≤ k → spec_ciLeast.f k s = some r := fun k hk => at_rounds (spec_ciLeast.mono s) hk e1
  rw [e2]
  refine ⟨e3, ?_⟩
  obtain ⟨r2, g1, g2⟩ := least_both s hs hl s.size 0 2000 s (by omega) (by omega)
  have g3 : spec_ciLeast.f 2000 s = some r2 := g1
  rw [e3 2000 (by decide)] at g3
  cases g3
  exact g2
def pLst (s : ByteArray) : Bool := (lstOf s).toList == s.toList
def pBlk (s : ByteArray) : Bool := pLst s && (((rmoves s).length : Int) == 0)
theorem cntO_eq {c : ByteArray → Option Bool} {p : ByteArray → Bool} {L : List ByteArray} (h : ∀ s ∈ L, c s = some (p s)) : cntO c L = some (L.countP p) := by
  unfold cntO
  rw [if_pos (List.all_eq_true.2 fun s hs => by rw [h s hs]; rfl)]
  congr 1
  exact List.countP_congr fun s hs => by rw [h s hs]; simp
theorem txt_snoc (pre : List UInt8) (b : UInt8) : txt pre ++ ⟨#[b]⟩ = txt (pre ++ [b]) := by
  have h : (txt pre ++ (⟨#[b]⟩ : ByteArray)).data.toList = (txt (pre ++ [b])).data.toList := by simp [txt]
  rw [← Lib.mk_data (txt pre ++ (⟨#[b]⟩ : ByteArray)), h, Lib.mk_data]
theorem ciCount_zero (pre : List UInt8) (h3 : 3 ≤ pre.length) (h9 : pre.length ≤ 9) (hp : pre.all sgn = true) (k : Nat) (hk : 1100 ≤ k) :
    spec_ciCount.f k (txt pre) 0 0 0 = some ((((linesAt 0 0 0 0 pre).countP pLst : Nat) : Int), (((linesAt 0 0 0 0 pre).countP pBlk : Nat) : Int)) := by
  obtain ⟨k, rfl⟩ : ∃ m, k = m + 1 := ⟨k - 1, by omega⟩
  have hsz : (txt pre).size = pre.length := by show pre.toArray.size = _; simp
  have hsg : (txt pre).data.toList.all sgn = true := by show pre.toArray.toList.all sgn = true; simpa using hp
  obtain ⟨l1, _⟩ := least_eq (txt pre) (by omega) hsg
  have hlin : linesAt 0 0 0 0 pre = [txt pre] := by simp [linesAt, enum]
  rw [hlin, spec_ciCount.f, if_pos (by unfold wrap64; omega), l1 k (by omega)]
  simp only [Option.bind_some, List.countP_singleton]
  by_cases hq : (lstOf (txt pre)).toList = (txt pre).toList
  · have hq1 : pLst (txt pre) = true := beq_iff_eq.2 hq
    rw [if_pos hq, ciMoves_eq (txt pre) (by omega) (by omega) hsg k (by omega)]
    simp only [Option.bind_some]
    by_cases hm : ((rmoves (txt pre)).length : Int) = 0
    · have hb : pBlk (txt pre) = true := by unfold pBlk; rw [hq1, beq_iff_eq.2 hm]; rfl
      rw [if_pos hm, hq1, hb]
      rfl
    · have hb : pBlk (txt pre) = false := by unfold pBlk; rw [hq1, beq_eq_false_iff_ne.2 hm]; rfl
      rw [if_neg hm, hq1, hb]
      rfl
  · have hq1 : pLst (txt pre) = false := beq_eq_false_iff_ne.2 hq
    have hb : pBlk (txt pre) = false := by unfold pBlk; rw [hq1]; rfl
    rw [if_neg hq, hq1, hb]
    rfl
def SG : List ByteArray := [(⟨#[84]⟩ : ByteArray), (⟨#[46]⟩ : ByteArray), (⟨#[70]⟩ : ByteArray)]
theorem ciCount_all (N : Nat) (h3 : 3 ≤ N) (h9 : N ≤ 9) : ∀ (n t g f : Nat) (pre : List UInt8) (k : Nat), n = t + g + f → pre.length + n = N → pre.all sgn = true → 1100 + 10 * n ≤ k →
    spec_ciCount.f k (txt pre) (t : Int) (g : Int) (f : Int) = some ((((linesAt n t g f pre).countP pLst : Nat) : Int), (((linesAt n t g f pre).countP pBlk : Nat) : Int))
  | 0, t, g, f, pre, k, hn, hp, hs, hk => by
    obtain rfl : t = 0 := by omega
    obtain rfl : g = 0 := by omega
    obtain rfl : f = 0 := by omega
    exact ciCount_zero pre (by omega) (by omega) hs k (by omega)
  | n + 1, t, g, f, pre, k, hn, hp, hs, hk => by
    obtain ⟨k, rfl⟩ : ∃ m, k = m + 4 + 1 := ⟨k - 5, by omega⟩
    have hsz : (txt pre).size = pre.length := by show pre.toArray.size = _; simp
    have hsum : wrap64 (wrap64 ((t : Int) + (g : Int)) + (f : Int)) = (t : Int) + (g : Int) + (f : Int) := by rw [w64 (x := (t : Int) + (g : Int)) (by omega) (by omega), w64 (by omega) (by omega)]
    have hT : t ≠ 0 → spec_ciCount.f (k + 3) (txt (pre ++ [84])) ((t : Int) - 1) (g : Int) (f : Int) = some ((((Tl n t g f pre).countP pLst : Nat) : Int), (((Tl n t g f pre).countP pBlk : Nat) : Int)) := fun h => by
      have := ciCount_all N h3 h9 n (t - 1) g f (pre ++ [84]) (k + 3) (by omega) (by rw [List.length_append, List.length_singleton]; omega) (by rw [List.all_append, hs]; rfl) (by omega)
      rw [show ((t - 1 : Nat) : Int) = (t : Int) - 1 by omega] at this
      unfold Tl
      rw [if_neg h]
      exact this
    have hG : g ≠ 0 → spec_ciCount.f (k + 2) (txt (pre ++ [46])) (t : Int) ((g : Int) - 1) (f : Int) = some ((((Gl n t g f pre).countP pLst : Nat) : Int), (((Gl n t g f pre).countP pBlk : Nat) : Int)) := fun h => by
      have := ciCount_all N h3 h9 n t (g - 1) f (pre ++ [46]) (k + 2) (by omega) (by rw [List.length_append, List.length_singleton]; omega) (by rw [List.all_append, hs]; rfl) (by omega)
      rw [show ((g - 1 : Nat) : Int) = (g : Int) - 1 by omega] at this
      unfold Gl
      rw [if_neg h]
      exact this
    have hF : f ≠ 0 → spec_ciCount.f (k + 1) (txt (pre ++ [70])) (t : Int) (g : Int) ((f : Int) - 1) = some ((((Fl n t g f pre).countP pLst : Nat) : Int), (((Fl n t g f pre).countP pBlk : Nat) : Int)) := fun h => by
      have := ciCount_all N h3 h9 n t g (f - 1) (pre ++ [70]) (k + 1) (by omega) (by rw [List.length_append, List.length_singleton]; omega) (by rw [List.all_append, hs]; rfl) (by omega)
      rw [show ((f - 1 : Nat) : Int) = (f : Int) - 1 by omega] at this
      unfold Fl
      rw [if_neg h]
      exact this
    have hT0 : t = 0 → Tl n t g f pre = [] := fun h => if_pos h
    have hG0 : g = 0 → Gl n t g f pre = [] := fun h => if_pos h
    have hF0 : f = 0 → Fl n t g f pre = [] := fun h => if_pos h
    have hlen : (linesAt (n + 1) t g f pre).length < 1000000 := by rw [linesAt_length (n + 1) t g f pre hn (by omega)]; exact M_small (by omega)
    rw [lines_succ] at hlen ⊢
    rw [List.length_append, List.length_append] at hlen
    have c1 := List.countP_le_length (p := pLst) (l := Tl n t g f pre)
    have c2 := List.countP_le_length (p := pBlk) (l := Tl n t g f pre)
    have c3 := List.countP_le_length (p := pLst) (l := Gl n t g f pre)
    have c4 := List.countP_le_length (p := pBlk) (l := Gl n t g f pre)
    have c5 := List.countP_le_length (p := pLst) (l := Fl n t g f pre)
    have c6 := List.countP_le_length (p := pBlk) (l := Fl n t g f pre)
    have hsh : ∀ b : UInt8, (txt pre).size + (⟨#[b]⟩ : ByteArray).size ≤ 9223372036854775807 := fun b => by
      show (txt pre).size + 1 ≤ _
      omega
    have hl3 : ((([(t : Int), (g : Int), (f : Int)] : List Int).length : Nat) : Int) = 3 := rfl
    have s0 : ∀ q : Nat, spec_ciCount.l0 (q + 1) (txt pre) (t : Int) (g : Int) (f : Int) 0 0 SG 3 0 = if (t : Int) = 0 then spec_ciCount.l0 q (txt pre) (t : Int) (g : Int) (f : Int) 0 0 SG 3 1 else (spec_ciCount.f q (txt pre ++ ⟨#[84]⟩) (wrap64 ((t : Int) - 1)) (g : Int) (f : Int)).bind fun bt => spec_ciCount.l0 q (txt pre) (t : Int) (g : Int) (f : Int) (wrap64 (0 + bt.1)) (wrap64 (0 + bt.2)) SG 3 1 := fun q => by
      have w1 : wrap64 ((0 : Int) + 1) = 1 := by unfold wrap64; omega
      rw [spec_ciCount.l0, if_pos (by decide), if_pos (by decide), if_pos (by decide), Option.bind_some, hl3, if_pos (by decide), w1]
      refine ite_congr rfl (fun _ => rfl) (fun _ => ?_)
      rw [Option.bind_some, show rdOf ByteArray.empty SG 0 = (⟨#[84]⟩ : ByteArray) from rfl, if_pos (hsh 84), if_pos (by decide), if_pos (by decide), if_pos (by decide)]
      rfl
    have s1 : ∀ (q : Nat) (x y : Int), spec_ciCount.l0 (q + 1) (txt pre) (t : Int) (g : Int) (f : Int) x y SG 3 1 = if (g : Int) = 0 then spec_ciCount.l0 q (txt pre) (t : Int) (g : Int) (f : Int) x y SG 3 2 else (spec_ciCount.f q (txt pre ++ ⟨#[46]⟩) (t : Int) (wrap64 ((g : Int) - 1)) (f : Int)).bind fun bt => spec_ciCount.l0 q (txt pre) (t : Int) (g : Int) (f : Int) (wrap64 (x + bt.1)) (wrap64 (y + bt.2)) SG 3 2 := fun q x y => by
      have w1 : wrap64 ((1 : Int) + 1) = 2 := by unfold wrap64; omega
      rw [spec_ciCount.l0, if_pos (by decide), if_pos (by decide), if_pos (by decide), Option.bind_some, hl3, if_pos (by decide), w1]
      refine ite_congr rfl (fun _ => rfl) (fun _ => ?_)
      rw [Option.bind_some, show rdOf ByteArray.empty SG 1 = (⟨#[46]⟩ : ByteArray) from rfl, if_pos (hsh 46), if_pos (by decide), if_pos (by decide), if_pos (by decide)]
      rfl
    have s2 : ∀ (q : Nat) (x y : Int), spec_ciCount.l0 (q + 1) (txt pre) (t : Int) (g : Int) (f : Int) x y SG 3 2 = if (f : Int) = 0 then spec_ciCount.l0 q (txt pre) (t : Int) (g : Int) (f : Int) x y SG 3 3 else (spec_ciCount.f q (txt pre ++ ⟨#[70]⟩) (t : Int) (g : Int) (wrap64 ((f : Int) - 1))).bind fun bt => spec_ciCount.l0 q (txt pre) (t : Int) (g : Int) (f : Int) (wrap64 (x + bt.1)) (wrap64 (y + bt.2)) SG 3 3 := fun q x y => by
      have w1 : wrap64 ((2 : Int) + 1) = 3 := by unfold wrap64; omega
      rw [spec_ciCount.l0, if_pos (by decide), if_pos (by decide), if_pos (by decide), Option.bind_some, hl3, if_pos (by decide), w1]
      refine ite_congr rfl (fun _ => rfl) (fun _ => ?_)
      rw [Option.bind_some, show rdOf ByteArray.empty SG 2 = (⟨#[70]⟩ : ByteArray) from rfl, if_pos (hsh 70), if_pos (by decide), if_pos (by decide), if_pos (by decide)]
      rfl
    have s3 : ∀ (q : Nat) (x y : Int), spec_ciCount.l0 (q + 1) (txt pre) (t : Int) (g : Int) (f : Int) x y SG 3 3 = some (x, y) := fun q x y => by
      rw [spec_ciCount.l0, if_neg (by decide)]
    have r0 : spec_ciCount.l0 (k + 4) (txt pre) (t : Int) (g : Int) (f : Int) 0 0 SG 3 0 = spec_ciCount.l0 (k + 3) (txt pre) (t : Int) (g : Int) (f : Int) (((Tl n t g f pre).countP pLst : Nat) : Int) (((Tl n t g f pre).countP pBlk : Nat) : Int) SG 3 1 := by
      rw [s0 (k + 3)]
      by_cases h : t = 0
      · rw [if_pos (by omega), hT0 h]
        rfl
      · rw [if_neg (by omega), txt_snoc, w64 (x := (t : Int) - 1) (by omega) (by omega), hT h, Option.bind_some, Int.zero_add, Int.zero_add, w64 (by omega) (by omega), w64 (by omega) (by omega)]
    have r1 : spec_ciCount.l0 (k + 3) (txt pre) (t : Int) (g : Int) (f : Int) (((Tl n t g f pre).countP pLst : Nat) : Int) (((Tl n t g f pre).countP pBlk : Nat) : Int) SG 3 1 = spec_ciCount.l0 (k + 2) (txt pre) (t : Int) (g : Int) (f : Int) ((((Tl n t g f pre).countP pLst : Nat) : Int) + (((Gl n t g f pre).countP pLst : Nat) : Int)) ((((Tl n t g f pre).countP pBlk : Nat) : Int) + (((Gl n t g f pre).countP pBlk : Nat) : Int)) SG 3 2 := by
      rw [s1 (k + 2)]
      by_cases h : g = 0
      · rw [if_pos (by omega), hG0 h]
        simp only [List.countP_nil, Int.natCast_zero, Int.add_zero]
      · rw [if_neg (by omega), txt_snoc, w64 (x := (g : Int) - 1) (by omega) (by omega), hG h, Option.bind_some, w64 (by omega) (by omega), w64 (by omega) (by omega)]
    have r2 : ∀ x y : Int, 0 ≤ x → x ≤ 2000000 → 0 ≤ y → y ≤ 2000000 → spec_ciCount.l0 (k + 2) (txt pre) (t : Int) (g : Int) (f : Int) x y SG 3 2 = some (x + (((Fl n t g f pre).countP pLst : Nat) : Int), y + (((Fl n t g f pre).countP pBlk : Nat) : Int)) := fun x y x0 x1 y0 y1 => by
      rw [s2 (k + 1)]
      by_cases h : f = 0
      · rw [if_pos (by omega), hF0 h, s3 k]
        simp only [List.countP_nil, Int.natCast_zero, Int.add_zero]
      · rw [if_neg (by omega), txt_snoc, w64 (x := (f : Int) - 1) (by omega) (by omega), hF h, Option.bind_some, w64 (by omega) (by omega), w64 (by omega) (by omega), s3 k]
    rw [spec_ciCount.f, hsum, if_neg (by omega), Option.bind_some, show spec_ciCount.l0 (k + 4) (txt pre) (t : Int) (g : Int) (f : Int) 0 0 [(⟨#[84]⟩ : ByteArray), (⟨#[46]⟩ : ByteArray), (⟨#[70]⟩ : ByteArray)] (([(⟨#[84]⟩ : ByteArray), (⟨#[46]⟩ : ByteArray), (⟨#[70]⟩ : ByteArray)].length : Nat) : Int) 0 = spec_ciCount.l0 (k + 4) (txt pre) (t : Int) (g : Int) (f : Int) 0 0 SG 3 0 from rfl, r0, r1, r2 _ _ (by omega) (by omega) (by omega) (by omega)]
    rw [List.countP_append, List.countP_append, List.countP_append, List.countP_append]
    congr 2 <;> omega
end Go.Proofs.Ytpelhinjoambfaa.XC
