/- The Lean functions that the Go functions of this seat compute, each with the proof that the Go function computes it, for every input (laws: FnLinesRankedOfAll). Conditions: none beyond those that each theorem names. Written by a program of this session over the kit's printer. -/
import Derived.Test.YtgiphajcffambaaDoorXA0
import Derived.Test.YtgiphajcffambaaDoorXA1
import Derived.Test.YtgiphajcffambaaDoorXA2
import Derived.Test.YtgiphajcffambaaDoorXA3
import Derived.Test.YtgiphajcffambaaDoorXA4
namespace Go.Proofs.YtgiphajcffambaaDoor.XA
open Go.RowKit Go.Proofs.YtgiphajcffambaaDoorW.PrintWords Go.Proofs.YtgiphajcffambaaDoorW.PrintLast Go.Proofs.YtgiphajcffambaaDoorW.PrintMore
attribute [local go_sem] max2_int min2_int max_two min_two max_three min_three max_four min_four   -- for this text's walks alone
attribute [local go_sem] Lib.run_min_strs Go.Proofs.YtgiphajcffambaaDoorXW.run_min2_strs Go.Proofs.YtgiphajcffambaaDoorXW.run_int_string
set_option linter.unusedVariables false
set_option linter.unusedSimpArgs false

/-! ### impl_below: function 58 (given) -/
section
open Go Go.RowKit Go.Lib Go.Proofs.YtgiphajcffambaaDoorW.PrintWords Go.Proofs.YtgiphajcffambaaDoor.Ranks
theorem lines_table : ∀ a, a < 13 → ∀ b, b < 13 - a → ∀ c, c < 13 - a - b → (impl_lines.f 100 ((a : Nat) : Int) ((b : Nat) : Int) ((c : Nat) : Int) == some ((M a b c : Nat) : Int)) = true := by decide +kernel
theorem lines_eq (t g f : Nat) (h : t + g + f ≤ 12) : impl_lines.f 100 (t : Int) (g : Int) (f : Int) = some ((M t g f : Nat) : Int) :=
  eq_of_beq (lines_table t (by omega) g (by omega) f (by omega))
/-- how many lines have a sign less than s at first -/
def bel (t g f s : Nat) : Nat := (if 1 ≤ s then GG t g f else 0) + (if 2 ≤ s then FF t g f else 0)
def Bel (w0 w : World) (g f t s : Nat) (x i : Value) : Prop := ∃ k : Nat, k ≤ s ∧ i = .int .i64 (k : Int) ∧ x = .int .i64 ((bel t g f k : Nat) : Int) ∧ w.heap[w0.heap.size]? = some (.cells #[.int .i64 (g : Int), .int .i64 (f : Int), .int .i64 (t : Int)] 66 (0, 0)) ∧ Below w0.heap.size w0 w
set_option maxHeartbeats 4000000 in
set_option maxRecDepth 1000000 in
theorem impl_below.walk (t g f s : Nat) (hs : t + g + f ≤ 12) (h2 : s ≤ 2) (w : World) :
    Calls Tryd.prog 58 #[.agg #[.int .i64 (g : Int), .int .i64 (f : Int), .int .i64 (t : Int)], .int .i64 (s : Int)] w fun e w' => e = .returned (.int .i64 ((bel t g f s : Nat) : Int)) ∧ Below w.heap.size w w' := by
  go_enter Tryd.func58, Tryd.ntmps58
  go_wp2
  have hb0 : (w.alloc (.cells #[.int .i64 (g : Int), .int .i64 (f : Int), .int .i64 (t : Int)] 66 (0, 0))).heap[w.heap.size]? = some (.cells #[.int .i64 (g : Int), .int .i64 (f : Int), .int .i64 (t : Int)] 66 (0, 0)) := blk_new w _
  have hB0 : Below w.heap.size w (w.alloc (.cells #[.int .i64 (g : Int), .int .i64 (f : Int), .int .i64 (t : Int)] 66 (0, 0))) := below_alloc (Below.refl _ _) _
  go_loopw [5, 8] (fun x i wr => Bel w wr g f t s x i) (fun _ i _ => s - (RowKit.intOf i).toNat)
  case atStart => exact ⟨0, Nat.zero_le _, rfl, by simp [bel], hb0, hB0⟩
  case round =>
    obtain ⟨k, hk, rfl, rfl, hb, hB⟩ := hrel
    clear hb0 hB0
    have hgb := GG_le hs
    have hfb := FF_le hs
    have hc0 : wr.cell? ⟨w.heap.size, 0, none⟩ = some (.int .i64 (g : Int)) := (blk_cell hb 0).trans rfl
    have hc1 : wr.cell? ⟨w.heap.size, 1, none⟩ = some (.int .i64 (f : Int)) := (blk_cell hb 1).trans rfl
    have hc2 : wr.cell? ⟨w.heap.size, 2, none⟩ = some (.int .i64 (t : Int)) := (blk_cell hb 2).trans rfl
    have hf0 := blk_frozen hb 0
    have hf1 := blk_frozen hb 1
    by_cases hlt : k < s
    · have hk01 : k = 0 ∨ k = 1 := by omega
      rcases hk01 with rfl | rfl
      · have e0 : bel t g f 0 = 0 := by simp [bel]
        have HE : Hid (bel t g f (0 + 1) = GG t g f) := Lib.hid (by simp [bel])
        rw [e0]
        clear e0
        by_cases hg : g = 0
        · subst hg
          go_wp2
          go_roundw
          case rel => exact ⟨0 + 1, by omega, rfl, by rw [HE.out]; rfl, hb, hB⟩
          case measure => simp [RowKit.intOf]; omega
        · have hl := lines_eq t (g - 1) f (by omega)
          rw [show (((g - 1 : Nat)) : Int) = (g : Int) - 1 from by omega] at hl
          have HG : Hid (GG t g f = M t (g - 1) f) := Lib.hid (by unfold GG; rw [if_neg hg])
          have hm := M_small (t := t) (g := g - 1) (f := f) (by omega)
          generalize M t (g - 1) f = m at *
          go_wp2_with (go_at_call 65; refine (impl_lines.calls 100 (t : Int) ((g : Int) - 1) (f : Int) (m : Int) _ hl).mono ?_; rintro e w' ⟨rfl, ⟨nd, rfl⟩⟩)
          refine ⟨⟨0 + 1, by omega, rfl, by rw [HE.out, HG.out], blk_set (blk_drewN (blk_set hb 0 _) nd) 0 _, ?_⟩, ?_⟩
          · exact (pw_below_drewN (below_set hB (Nat.le_refl _)) nd).setCell (Nat.le_refl _) _
          · simp [RowKit.intOf]; omega
      · have HE : Hid (bel t g f (1 + 1) = GG t g f + FF t g f) := Lib.hid (by simp [bel])
        have e0 : bel t g f 1 = GG t g f := by simp [bel]
        rw [e0]
        clear e0
        generalize GG t g f = y at *
        by_cases hg : f = 0
        · subst hg
          go_wp2
          go_roundw
          case rel => exact ⟨1 + 1, by omega, rfl, by rw [HE.out]; rfl, hb, hB⟩
          case measure => simp [RowKit.intOf]; omega
        · have hl := lines_eq t g (f - 1) (by omega)
          rw [show (((f - 1 : Nat)) : Int) = (f : Int) - 1 from by omega] at hl
          have HG : Hid (FF t g f = M t g (f - 1)) := Lib.hid (by unfold FF; rw [if_neg hg])
          have hm := M_small (t := t) (g := g) (f := f - 1) (by omega)
          generalize M t g (f - 1) = m at *
          go_wp2_with (go_at_call 65; refine (impl_lines.calls 100 (t : Int) (g : Int) ((f : Int) - 1) (m : Int) _ hl).mono ?_; rintro e w' ⟨rfl, ⟨nd, rfl⟩⟩)
          refine ⟨⟨1 + 1, by omega, rfl, by rw [HE.out, HG.out]; rfl, blk_set (blk_drewN (blk_set hb 1 _) nd) 1 _, ?_⟩, ?_⟩
          · exact (pw_below_drewN (below_set hB (Nat.le_refl _)) nd).setCell (Nat.le_refl _) _
          · simp [RowKit.intOf]; omega
    · obtain rfl : k = s := by omega
      go_wp2
      go_ret
      exact ⟨rfl, hB⟩
end
/-- how many lines have a lesser sign at first: for counts up to 12 together and a sign's place -/
def impl_below.f (a0 a1 a2 : Int) (a3 : Int) : Option Int := if 0 ≤ a0 ∧ 0 ≤ a1 ∧ 0 ≤ a2 ∧ a0 + a1 + a2 ≤ 12 ∧ 0 ≤ a3 ∧ a3 ≤ 2 then some ((bel a2.toNat a0.toNat a1.toNat a3.toNat : Nat) : Int) else none
theorem impl_below.calls (a0 a1 a2 a3 : Int) (r : Int) (w : World) (h : impl_below.f a0 a1 a2 a3 = some r) :
    Calls Tryd.prog 58 #[.agg #[.int .i64 a0, .int .i64 a1, .int .i64 a2], .int .i64 a3] w fun e w' => e = .returned (.int .i64 r) ∧ Below w.heap.size w w' := by
  unfold impl_below.f at h
  split at h
  · rename_i hc
    obtain rfl := Option.some.inj h
    obtain ⟨h0, h1, h2, h3, h4, h5⟩ := hc
    have hw := impl_below.walk a2.toNat a0.toNat a1.toNat a3.toNat (by omega) (by omega) w
    rwa [Int.toNat_of_nonneg h0, Int.toNat_of_nonneg h1, Int.toNat_of_nonneg h2, Int.toNat_of_nonneg h4] at hw
  · cases h


/-! ### impl_RankOfLine: function 22 (given) -/
section
open Go Go.RowKit Go.Lib Go.Proofs.YtgiphajcffambaaDoorW.PrintWords Go.Proofs.YtgiphajcffambaaDoorW.PrintLast Go.Proofs.YtgiphajcffambaaDoor.Ranks Go.Proofs.YtgiphajcffambaaDoorB
def Rnk (w0 w : World) (B : Nat) (l : List UInt8) (x i : Value) : Prop := ∃ (k acc : Nat), k ≤ l.length ∧ i = .int .i64 (k : Int) ∧ x = .int .i64 (acc : Int) ∧ acc + rank (l.drop k) = rank l ∧
  w.heap[B]? = some (.cells #[.int .i64 (((l.drop k).count 46 : Nat) : Int), .int .i64 (((l.drop k).count 70 : Nat) : Int), .int .i64 (((l.drop k).count 84 : Nat) : Int)] 66 (0, 0)) ∧ Below w0.heap.size w0 w
theorem rk_cons (c : UInt8) (l : List UInt8) : rank (c :: l) = (if c = 46 then 0 else if c = 70 then GG ((c :: l).count 84) ((c :: l).count 46) ((c :: l).count 70) else GG ((c :: l).count 84) ((c :: l).count 46) ((c :: l).count 70) + FF ((c :: l).count 84) ((c :: l).count 46) ((c :: l).count 70)) + rank l := rfl
theorem rk_below (t g f s : Nat) (h : t + g + f ≤ 12) (h2 : s ≤ 2) : impl_below.f (g : Int) (f : Int) (t : Int) (s : Int) = some ((bel t g f s : Nat) : Int) := by
  unfold impl_below.f
  rw [if_pos (by omega), Int.toNat_natCast, Int.toNat_natCast, Int.toNat_natCast, Int.toNat_natCast]
set_option maxHeartbeats 4000000 in
set_option maxRecDepth 1000000 in
theorem impl_RankOfLine.walk (a : ByteArray) (hI : impl_IsLine.f a = some true) (h12 : a.size ≤ 12) (hall : a.data.toList.all sgn = true) (w : World) :
    Calls Tryd.prog 22 #[.string a] w fun e w' => e = .returned (.tuple #[.int .i64 ((rank a.data.toList : Nat) : Int), .bool true]) ∧ Below w.heap.size w w' := by
  have hcn : impl_count.f a = some (((a.data.toList.count 84 : Nat) : Int), ((a.data.toList.count 46 : Nat) : Int), ((a.data.toList.count 70 : Nat) : Int)) := rfl
  have hl : a.data.toList.length = a.size := by rw [Array.length_toList]; rfl
  have hrl := Nat.lt_trans (rank_lt a.data.toList hall (by omega)) (M_small (by rw [counts_len hall]; omega))
  obtain ⟨t0, ht0⟩ : ∃ t, t = a.data.toList.count 84 := ⟨_, rfl⟩
  obtain ⟨g0, hg0⟩ : ∃ g, g = a.data.toList.count 46 := ⟨_, rfl⟩
  obtain ⟨f0, hf0⟩ : ∃ f, f = a.data.toList.count 70 := ⟨_, rfl⟩
  rw [← ht0, ← hg0, ← hf0] at hcn
  have HT := Lib.hid ht0
  have HG := Lib.hid hg0
  have HF := Lib.hid hf0
  have HL := Lib.hid hl
  clear ht0 hg0 hf0 hl
  go_enter Tryd.func22, Tryd.ntmps22
  go_wp2_with (first
    | (go_at_call 48; refine (impl_IsLine.calls a true _ hI).mono ?_; rintro e w1 ⟨rfl, hb1⟩)
    | (go_at_call 56; refine (impl_count.calls a _ _ _ _ hcn).mono ?_; rintro e w2 ⟨rfl, hx⟩; have hb2 := below_step hb1 hx.below; clear hx hb1))
  have hB0 : Below w.heap.size w (w2.alloc (.cells #[.int .i64 (g0 : Int), .int .i64 (f0 : Int), .int .i64 (t0 : Int)] 66 (0, 0))) := below_alloc hb2 _
  have hb0 := blk_new w2 (.cells #[.int .i64 (g0 : Int), .int .i64 (f0 : Int), .int .i64 (t0 : Int)] 66 (0, 0))
  have hBG : w.heap.size ≤ w2.heap.size := hb2.size
  generalize w2.alloc (.cells #[.int .i64 (g0 : Int), .int .i64 (f0 : Int), .int .i64 (t0 : Int)] 66 (0, 0)) = W at *
  generalize w2.heap.size = B at *
  have hl := HL.out
  clear hb2 hI hcn HL
  go_loopw [8, 26] (fun x i wr => Rnk w wr B a.data.toList x i) (fun _ i _ => a.size - (RowKit.intOf i).toNat)
  case atStart => exact ⟨0, 0, Nat.zero_le _, rfl, rfl, by simp, by rw [List.drop_zero, ← HT.out, ← HG.out, ← HF.out]; exact hb0, hB0⟩
  case round =>
    clear hb0 hB0
    obtain ⟨k, acc, hk, rfl, rfl, hacc, hb, hB⟩ := hrel
    by_cases hlt : k < a.data.toList.length
    · have hka : k < a.size := by omega
      have hd : a.data.toList.drop k = a[k]'hka :: a.data.toList.drop (k + 1) := List.drop_eq_getElem_cons hlt
      have hdec : decide ((k : Int) < (a.size : Int)) = true := decide_eq_true (by omega)
      have hal2 : (a.data.toList.drop k).all sgn = true := List.all_eq_true.2 fun x hx => List.all_eq_true.1 hall x (List.mem_of_mem_drop hx)
      have hlen := counts_len hal2
      rw [List.length_drop, hl] at hlen
      have hs12 : (a.data.toList.drop k).count 84 + (a.data.toList.drop k).count 46 + (a.data.toList.drop k).count 70 ≤ 12 := by omega
      have hsg : sgn (a[k]'hka) = true := by
        rw [hd, List.all_cons, Bool.and_eq_true] at hal2
        exact hal2.1
      obtain ⟨t, ht⟩ : ∃ t, t = (a.data.toList.drop k).count 84 := ⟨_, rfl⟩
      obtain ⟨g, hg⟩ : ∃ g, g = (a.data.toList.drop k).count 46 := ⟨_, rfl⟩
      obtain ⟨f, hf⟩ : ∃ f, f = (a.data.toList.drop k).count 70 := ⟨_, rfl⟩
      have hcn : (a.data.toList.drop k).count 84 = t ∧ (a.data.toList.drop k).count 46 = g ∧ (a.data.toList.drop k).count 70 = f := ⟨ht.symm, hg.symm, hf.symm⟩
      rw [← ht, ← hg, ← hf] at hb hs12
      clear ht hg hf hlen hal2
      have hc0 : wr.cell? ⟨B, 0, none⟩ = some (.int .i64 (g : Int)) := (blk_cell hb 0).trans rfl
      have hc1 : wr.cell? ⟨B, 1, none⟩ = some (.int .i64 (f : Int)) := (blk_cell hb 1).trans rfl
      have hc2 : wr.cell? ⟨B, 2, none⟩ = some (.int .i64 (t : Int)) := (blk_cell hb 2).trans rfl
      have hd0 := rk_below t g f 0 hs12 (by omega)
      have hd1 := rk_below t g f 1 hs12 (by omega)
      have hd2 := rk_below t g f 2 hs12 (by omega)
      have e0 : bel t g f 0 = 0 := by simp [bel]
      have e1 : bel t g f 1 = GG t g f := by simp [bel]
      have e2 : bel t g f 2 = GG t g f + FF t g f := by simp [bel]
      have hgb := GG_le hs12
      have hfb := FF_le hs12
      have hacb : acc ≤ 1000000 := by omega
      rw [e0] at hd0
      rw [e1] at hd1
      rw [e2] at hd2
      clear e0 e1 e2
      obtain ⟨y1, hy1⟩ : ∃ y1 : Nat, y1 = GG t g f := ⟨_, rfl⟩
      obtain ⟨y2, hy2⟩ : ∃ y2 : Nat, y2 = GG t g f + FF t g f := ⟨_, rfl⟩
      rw [← hy2] at hd2
      rw [← hy1] at hd1
      have hyb : y1 < 1000000 ∧ y2 < 2000000 := by omega
      have HY1 := Lib.hid hy1
      have HY2 := Lib.hid hy2
      clear hy1 hy2 hgb hfb
      rcases sgn_cases hsg with hcx | hcx | hcx
      · rw [hcx] at hd
        clear hd1 hd2 hsg
        have hxb : (a[k]'hka).toNat = 46 := by rw [hcx]; rfl
        have hix : strings_IndexByte.f ⟨#[46, 70, 84]⟩ 46 = some 0 := rfl
        have hcc : rank (a.data.toList.drop k) = 0 + rank (a.data.toList.drop (k + 1)) := by
          rw [hd, rk_cons]; rw [if_pos rfl]
        have hn1 : 1 ≤ g ∧ (a.data.toList.drop (k + 1)).count 46 = (g - 1) ∧ (a.data.toList.drop (k + 1)).count 70 = f ∧ (a.data.toList.drop (k + 1)).count 84 = t := by
          obtain ⟨n1, n2, n3⟩ := hcn; rw [hd, List.count_cons] at n1 n2 n3; simp at n1 n2 n3; omega
        have HN1 := Lib.hid hn1
        have hv1 := hn1.1
        have HCC := Lib.hid (hacc.symm.trans (congrArg (acc + ·) hcc))
        clear hn1 hcc hcn hd hacc hcx
        go_wp2_with (first | (go_at_call 57; refine (strings_IndexByte.calls ⟨#[46, 70, 84]⟩ 46 0 _ hix).mono ?_; rintro e w' ⟨rfl, ⟨nd, rfl⟩⟩) | (go_at_call 58; refine (impl_below.calls (g : Int) (f : Int) (t : Int) 0 (0 : Int) _ hd0).mono ?_; rintro e w1 ⟨rfl, hx⟩; have hb3 := blk_below (blk_drewN hb _) hx; have hB3 := below_step (pw_below_drewN hB _) hx; clear hx hb hB hc0 hc1 hc2; have hb := hb3; have hB := hB3; clear hb3 hB3; have hc0 := (blk_cell hb 0).trans rfl; have hc1 := (blk_cell hb 1).trans rfl; have hc2 := (blk_cell hb 2).trans rfl; have hf0 := blk_frozen hb 0))
        refine ⟨⟨k + 1, acc + 0, by omega, rfl, rfl, ?_, ?_, below_set hB hBG⟩, ?_⟩
        · rw [HCC.out]; omega
        · rw [HN1.out.2.1, HN1.out.2.2.1, HN1.out.2.2.2]; have ec : ((g : Int) - 1) = ((g - 1 : Nat) : Int) := by omega
          rw [ec]; exact blk_set hb 0 _
        · simp [RowKit.intOf]; omega
      · rw [hcx] at hd
        clear hd0 hd2 hsg
        have hxb : (a[k]'hka).toNat = 70 := by rw [hcx]; rfl
        have hix : strings_IndexByte.f ⟨#[46, 70, 84]⟩ 70 = some 1 := rfl
        have hcc : rank (a.data.toList.drop k) = y1 + rank (a.data.toList.drop (k + 1)) := by
          rw [hd, rk_cons]; rw [if_neg (by decide), if_pos rfl, ← hd, hcn.1, hcn.2.1, hcn.2.2, HY1.out]
        have hn1 : 1 ≤ f ∧ (a.data.toList.drop (k + 1)).count 46 = g ∧ (a.data.toList.drop (k + 1)).count 70 = (f - 1) ∧ (a.data.toList.drop (k + 1)).count 84 = t := by
          obtain ⟨n1, n2, n3⟩ := hcn; rw [hd, List.count_cons] at n1 n2 n3; simp at n1 n2 n3; omega
        have HN1 := Lib.hid hn1
        have hv1 := hn1.1
        have HCC := Lib.hid (hacc.symm.trans (congrArg (acc + ·) hcc))
        clear hn1 hcc hcn hd hacc hcx
        go_wp2_with (first | (go_at_call 57; refine (strings_IndexByte.calls ⟨#[46, 70, 84]⟩ 70 1 _ hix).mono ?_; rintro e w' ⟨rfl, ⟨nd, rfl⟩⟩) | (go_at_call 58; refine (impl_below.calls (g : Int) (f : Int) (t : Int) 1 (y1 : Int) _ hd1).mono ?_; rintro e w1 ⟨rfl, hx⟩; have hb3 := blk_below (blk_drewN hb _) hx; have hB3 := below_step (pw_below_drewN hB _) hx; clear hx hb hB hc0 hc1 hc2; have hb := hb3; have hB := hB3; clear hb3 hB3; have hc0 := (blk_cell hb 0).trans rfl; have hc1 := (blk_cell hb 1).trans rfl; have hc2 := (blk_cell hb 2).trans rfl; have hf0 := blk_frozen hb 1))
        refine ⟨⟨k + 1, acc + y1, by omega, rfl, rfl, ?_, ?_, below_set hB hBG⟩, ?_⟩
        · rw [HCC.out]; omega
        · rw [HN1.out.2.1, HN1.out.2.2.1, HN1.out.2.2.2]; have ec : ((f : Int) - 1) = ((f - 1 : Nat) : Int) := by omega
          rw [ec]; exact blk_set hb 1 _
        · simp [RowKit.intOf]; omega
      · rw [hcx] at hd
        clear hd0 hd1 hsg
        have hxb : (a[k]'hka).toNat = 84 := by rw [hcx]; rfl
        have hix : strings_IndexByte.f ⟨#[46, 70, 84]⟩ 84 = some 2 := rfl
        have hcc : rank (a.data.toList.drop k) = y2 + rank (a.data.toList.drop (k + 1)) := by
          rw [hd, rk_cons]; rw [if_neg (by decide), if_neg (by decide), ← hd, hcn.1, hcn.2.1, hcn.2.2, HY2.out]
        have hn1 : 1 ≤ t ∧ (a.data.toList.drop (k + 1)).count 46 = g ∧ (a.data.toList.drop (k + 1)).count 70 = f ∧ (a.data.toList.drop (k + 1)).count 84 = (t - 1) := by
          obtain ⟨n1, n2, n3⟩ := hcn; rw [hd, List.count_cons] at n1 n2 n3; simp at n1 n2 n3; omega
        have HN1 := Lib.hid hn1
        have hv1 := hn1.1
        have HCC := Lib.hid (hacc.symm.trans (congrArg (acc + ·) hcc))
        clear hn1 hcc hcn hd hacc hcx
        go_wp2_with (first | (go_at_call 57; refine (strings_IndexByte.calls ⟨#[46, 70, 84]⟩ 84 2 _ hix).mono ?_; rintro e w' ⟨rfl, ⟨nd, rfl⟩⟩) | (go_at_call 58; refine (impl_below.calls (g : Int) (f : Int) (t : Int) 2 (y2 : Int) _ hd2).mono ?_; rintro e w1 ⟨rfl, hx⟩; have hb3 := blk_below (blk_drewN hb _) hx; have hB3 := below_step (pw_below_drewN hB _) hx; clear hx hb hB hc0 hc1 hc2; have hb := hb3; have hB := hB3; clear hb3 hB3; have hc0 := (blk_cell hb 0).trans rfl; have hc1 := (blk_cell hb 1).trans rfl; have hc2 := (blk_cell hb 2).trans rfl; have hf0 := blk_frozen hb 2))
        refine ⟨⟨k + 1, acc + y2, by omega, rfl, rfl, ?_, ?_, below_set hB hBG⟩, ?_⟩
        · rw [HCC.out]; omega
        · rw [HN1.out.2.1, HN1.out.2.2.1, HN1.out.2.2.2]; have ec : ((t : Int) - 1) = ((t - 1 : Nat) : Int) := by omega
          rw [ec]; exact blk_set hb 2 _
        · simp [RowKit.intOf]; omega
    · have hdec : decide ((k : Int) < (a.size : Int)) = false := decide_eq_false (by omega)
      rw [List.drop_of_length_le (by omega)] at hacc
      have HA := Lib.hid hacc
      clear hacc hb
      go_wp2
      go_ret2
      rw [← HA.out]
      exact ⟨rfl, hB⟩
set_option maxHeartbeats 4000000 in
set_option maxRecDepth 1000000 in
theorem impl_RankOfLine.none_ (a : ByteArray) (hI : impl_IsLine.f a = some false) (w : World) :
    Calls Tryd.prog 22 #[.string a] w fun e w' => e = .returned (.tuple #[.int .i64 0, .bool false]) ∧ Below w.heap.size w w' := by
  go_enter Tryd.func22, Tryd.ntmps22
  go_wp2_with (first
    | (go_at_call 48; refine (impl_IsLine.calls a false _ hI).mono ?_; rintro e w1 ⟨rfl, hb1⟩))
  go_ret2
  exact ⟨rfl, hb1⟩
end
/-- the rank of a line -/
def impl_RankOfLine.f (a0 : ByteArray) : Option (Int × Bool) := (impl_IsLine.f a0).bind fun b => if b = true then (if a0.size ≤ 12 ∧ a0.data.toList.all Go.Proofs.YtgiphajcffambaaDoorB.sgn = true then (some (((Go.Proofs.YtgiphajcffambaaDoor.Ranks.rank a0.data.toList : Nat) : Int), true)) else (none)) else (some (0, false))
theorem impl_RankOfLine.calls (a0 : ByteArray) (r1 : Int) (r2 : Bool) (w : World) (h : impl_RankOfLine.f a0 = some (r1, r2)) :
    Calls Tryd.prog 22 #[.string a0] w fun e w' => e = .returned (.tuple #[.int .i64 r1, .bool r2]) ∧ Below w.heap.size w w' := by
  unfold impl_RankOfLine.f at h
  obtain ⟨b, hb, h⟩ := Option.bind_eq_some_iff.mp h
  cases b with
  | false =>
    rw [if_neg (by decide)] at h
    cases h
    exact impl_RankOfLine.none_ a0 hb w
  | true =>
    rw [if_pos rfl] at h
    split at h
    · rename_i hc
      cases h
      exact impl_RankOfLine.walk a0 hb hc.1 hc.2 w
    · cases h


/-! ### spec_liMany: function 61 -/
mutual
def spec_liMany.j0 : Nat → Int → Int → Int → Bool → Option (Int)
  | 0, _, _, _, _ => none
  | k + 1, x0, x1, x2, x19 => if x19 = true then (some 0) else (spec_liMany.l0 k x0 x1 x2 1 1)
def spec_liMany.l0 : Nat → Int → Int → Int → Int → Int → Option (Int)
  | 0, _, _, _, _, _ => none
  | k + 1, x0, x1, x2, x7, x8 => if x8 ≤ x0 then (if x8 = 0 then (none) else (spec_liMany.l0 k x0 x1 x2 (wrap64 (Int.tdiv (wrap64 (x7 * (wrap64 ((wrap64 (x1 + x2)) + x8)))) x8)) (wrap64 (x8 + 1)))) else (spec_liMany.l1 k x1 x2 x7 1)
def spec_liMany.l1 : Nat → Int → Int → Int → Int → Option (Int)
  | 0, _, _, _, _ => none
  | k + 1, x1, x2, x7, x9 => if x9 ≤ x2 then (if x9 = 0 then (none) else (spec_liMany.l1 k x1 x2 (wrap64 (Int.tdiv (wrap64 (x7 * (wrap64 (x1 + x9)))) x9)) (wrap64 (x9 + 1)))) else (some x7)
end
def spec_liMany.f (k : Nat) (a0 : Int) (a1 : Int) (a2 : Int) : Option (Int) := if a0 < 0 then (spec_liMany.j0 k a0 a1 a2 true) else (if a1 < 0 then (spec_liMany.j0 k a0 a1 a2 true) else (spec_liMany.j0 k a0 a1 a2 (decide (a2 < 0))))
theorem spec_liMany.mono_l : ∀ k, (∀ y0 y1 y2 y3, LeO (spec_liMany.j0 k y0 y1 y2 y3) (spec_liMany.j0 (k + 1) y0 y1 y2 y3)) ∧ (∀ y0 y1 y2 y3 y4, LeO (spec_liMany.l0 k y0 y1 y2 y3 y4) (spec_liMany.l0 (k + 1) y0 y1 y2 y3 y4)) ∧ (∀ y0 y1 y2 y3, LeO (spec_liMany.l1 k y0 y1 y2 y3) (spec_liMany.l1 (k + 1) y0 y1 y2 y3))
  | 0 => ⟨fun _ _ _ _ r h => by simp [spec_liMany.j0] at h, fun _ _ _ _ _ r h => by simp [spec_liMany.l0] at h, fun _ _ _ _ r h => by simp [spec_liMany.l1] at h⟩
  | k + 1 => by
    obtain ⟨ih0, ih1, ih2⟩ := spec_liMany.mono_l k
    refine ⟨?_, ?_, ?_⟩
    · intro y0 y1 y2 y3
      unfold spec_liMany.j0
      repeat' first
      | (with_reducible exact ih0 _ _ _ _)
      | (with_reducible exact ih1 _ _ _ _ _)
      | (with_reducible exact ih2 _ _ _ _)
      | (with_reducible exact LeO.refl _)
      | (with_reducible exact LeO.none _)
      | (with_reducible refine LeO.ite ?_ ?_)
      | (with_reducible refine LeO.bind ?_ (fun _ => ?_))
      | exact ih0 _ _ _ _
      | exact ih1 _ _ _ _ _
      | exact ih2 _ _ _ _
      | exact LeO.none _
      | refine LeO.ite ?_ ?_
      | refine LeO.bind ?_ (fun _ => ?_)
    · intro y0 y1 y2 y3 y4
      unfold spec_liMany.l0
      repeat' first
      | (with_reducible exact ih0 _ _ _ _)
      | (with_reducible exact ih1 _ _ _ _ _)
      | (with_reducible exact ih2 _ _ _ _)
      | (with_reducible exact LeO.refl _)
      | (with_reducible exact LeO.none _)
      | (with_reducible refine LeO.ite ?_ ?_)
      | (with_reducible refine LeO.bind ?_ (fun _ => ?_))
      | exact ih0 _ _ _ _
      | exact ih1 _ _ _ _ _
      | exact ih2 _ _ _ _
      | exact LeO.none _
      | refine LeO.ite ?_ ?_
      | refine LeO.bind ?_ (fun _ => ?_)
    · intro y0 y1 y2 y3
      unfold spec_liMany.l1
      repeat' first
      | (with_reducible exact ih0 _ _ _ _)
      | (with_reducible exact ih1 _ _ _ _ _)
      | (with_reducible exact ih2 _ _ _ _)
      | (with_reducible exact LeO.refl _)
      | (with_reducible exact LeO.none _)
      | (with_reducible refine LeO.ite ?_ ?_)
      | (with_reducible refine LeO.bind ?_ (fun _ => ?_))
      | exact ih0 _ _ _ _
      | exact ih1 _ _ _ _ _
      | exact ih2 _ _ _ _
      | exact LeO.none _
      | refine LeO.ite ?_ ?_
      | refine LeO.bind ?_ (fun _ => ?_)
theorem spec_liMany.mono : ∀ a0 a1 a2 k, LeO (spec_liMany.f k a0 a1 a2) (spec_liMany.f (k + 1) a0 a1 a2) := by
  intro a0 a1 a2 k
  obtain ⟨ih0, ih1, ih2⟩ := spec_liMany.mono_l k
  unfold spec_liMany.f
  repeat' first
      | (with_reducible exact ih0 _ _ _ _)
      | (with_reducible exact ih1 _ _ _ _ _)
      | (with_reducible exact ih2 _ _ _ _)
      | (with_reducible exact LeO.refl _)
      | (with_reducible exact LeO.none _)
      | (with_reducible refine LeO.ite ?_ ?_)
      | (with_reducible refine LeO.bind ?_ (fun _ => ?_))
      | exact ih0 _ _ _ _
      | exact ih1 _ _ _ _ _
      | exact ih2 _ _ _ _
      | exact LeO.none _
      | refine LeO.ite ?_ ?_
      | refine LeO.bind ?_ (fun _ => ?_)
set_option maxHeartbeats 8000000 in
set_option maxRecDepth 100000 in
theorem spec_liMany.calls (k : Nat) (a0 : Int) (a1 : Int) (a2 : Int) (r : Int) (w : World) (h : spec_liMany.f k a0 a1 a2 = some r) :
    Calls Tryd.prog 61 #[.int .i64 a0, .int .i64 a1, .int .i64 a2] w fun e w' => e = .returned (.int .i64 r) ∧ Drawn0 w w' := by
  have H : (if a0 < 0 then (spec_liMany.j0 k a0 a1 a2 true) else (if a1 < 0 then (spec_liMany.j0 k a0 a1 a2 true) else (spec_liMany.j0 k a0 a1 a2 (decide (a2 < 0))))) = some r := h
  clear h
  have HC4 := Aside0.mk H
  clear H
  go_enter Tryd.func61, Tryd.ntmps61
  go_upto_region 1 with (fail)
  go_cut [19] (fun v19 wc => ∃ (kq : Nat) (x19_3 : Bool), v19 = .bool x19_3 ∧ Aside0 (spec_liMany.j0 kq a0 a1 a2 x19_3 = some r) ∧ Aside0 (kq ≤ k) ∧ Drawn0 w wc)
  case first =>
    have H := HC4.out
    clear HC4
    by_cases c5 : a0 < 0
    · rw [if_pos c5] at H
      have c5b0 : decide (a0 < 0) = true := decide_eq_true c5
      clear c5
      (first | rw [c5b0] | (simp only [i64_w, i32_w]; rw [c5b0]) | skip)
      have H' := Aside0.mk H
      clear H
      go_wp2
      go_meet
      case rel => exact ⟨_, (true), (by first | rfl | (simp; done) | (simp [*]; done)), H', ⟨by first | omega | exact Nat.le_refl _⟩, by repeat (first | exact Drawn0.refl _ | apply Drawn0.step)⟩
    · rw [if_neg c5] at H
      have c5b0 : decide (a0 < 0) = false := decide_eq_false c5
      clear c5
      (first | rw [c5b0] | (simp only [i64_w, i32_w]; rw [c5b0]) | skip)
      by_cases c6 : a1 < 0
      · rw [if_pos c6] at H
        have c6b0 : decide (a1 < 0) = true := decide_eq_true c6
        clear c6
        have H' := Aside0.mk H
        clear H
        go_wp2
        go_meet
        case rel => exact ⟨_, (true), (by first | rfl | (simp; done) | (simp [*]; done)), H', ⟨by first | omega | exact Nat.le_refl _⟩, by repeat (first | exact Drawn0.refl _ | apply Drawn0.step)⟩
      · rw [if_neg c6] at H
        have c6b0 : decide (a1 < 0) = false := decide_eq_false c6
        clear c6
        have H' := Aside0.mk H
        clear H
        go_wp2
        go_meet
        case rel => exact ⟨_, (decide (a2 < 0)), (by first | rfl | (simp; done) | (simp [*]; done)), H', ⟨by first | omega | exact Nat.le_refl _⟩, by repeat (first | exact Drawn0.refl _ | apply Drawn0.step)⟩
  case rest =>
    clear HC4
    try clear p2
    try clear c5
    try clear c5b0
    try clear c6
    try clear c6b0
    obtain ⟨kq, x19_3, rfl, HA, HJ3, ⟨mc3, rfl⟩⟩ := hcut
    cases kq with
    | zero => exact absurd HA.out (by simp [spec_liMany.j0])
    | succ kj3 =>
      have H := HA.out
      clear HA
      simp only [spec_liMany.j0] at H
      by_cases c7 : x19_3 = true
      · subst c7
        have H1 : (some 0) = some r := by rw [if_pos rfl] at H; exact H
        clear H
        have H := H1
        clear H1
        obtain rfl := Option.some.inj H
        go_wp2
        go_ret
        exact ⟨by first | rfl | (simp; done) | (simp [*]; done), by repeat (first | exact Drawn0.refl _ | apply Drawn0.step)⟩
      · replace c7 := Bool.eq_false_iff.mpr c7
        subst c7
        have H1 : (spec_liMany.l0 kj3 a0 a1 a2 1 1) = some r := by rw [if_neg (show ¬ (false = true) by decide)] at H; exact H
        clear H
        have H := H1
        clear H1
        have H' := Aside0.mk H
        clear H
        go_wp2
        go_loopg [7, 8] kj3 (fun kq v7 v8 w' => ∃ (x7_2 : Int) (x8_2 : Int), v7 = .int .i64 x7_2 ∧ v8 = .int .i64 x8_2 ∧ Aside0 (spec_liMany.l0 kq a0 a1 a2 x7_2 x8_2 = some r) ∧ Aside0 (kq ≤ kj3) ∧ Drawn0 w w')
        case atStart => exact ⟨(1), (1), (by first | rfl | (simp; done) | (simp [*]; done)), (by first | rfl | (simp; done) | (simp [*]; done)), H', ⟨Nat.le_refl _⟩, by repeat (first | exact Drawn0.refl _ | apply Drawn0.step)⟩
        case round =>
          clear H'
          try clear p2
          try clear c3
          try clear c5
          try clear c5b0
          try clear c6
          try clear c6b0
          try clear c7
          try clear p2
          obtain ⟨x7_2, x8_2, rfl, rfl, HA, HK2, ⟨m2, rfl⟩⟩ := hrel
          cases gk with
          | zero => exact absurd HA.out (by simp [spec_liMany.l0])
          | succ k2 =>
            have H := HA.out
            clear HA
            simp only [spec_liMany.l0] at H
            by_cases c8 : x8_2 ≤ a0
            · rw [if_pos c8] at H
              have c8b0 : decide (x8_2 ≤ a0) = true := decide_eq_true c8
              clear c8
              by_cases c9 : x8_2 = 0
              · rw [if_pos c9] at H
                exact absurd H (by simp)
              · rw [if_neg c9] at H
                have c9b0 : (x8_2 == 0) = false := beq_eq_false_iff_ne.mpr c9
                have c9b1 : (x8_2 != 0) = true := bne_iff_ne.mpr c9
                have H' := Aside0.mk H
                clear H
                go_wp2
                go_roundg k2
                case measure => have := HJ3.out; have := HK2.out; omega
                case rel => exact ⟨(wrap64 (Int.tdiv (wrap64 (x7_2 * (wrap64 ((wrap64 (a1 + a2)) + x8_2)))) x8_2)), (wrap64 (x8_2 + 1)), (by first | rfl | (simp; done) | (simp [*]; done)), (by first | rfl | (simp; done) | (simp [*]; done)), H', ⟨by have := HJ3.out; have := HK2.out; omega⟩, by repeat (first | exact Drawn0.refl _ | apply Drawn0.step)⟩
            · rw [if_neg c8] at H
              have c8b0 : decide (x8_2 ≤ a0) = false := decide_eq_false c8
              clear c8
              have H' := Aside0.mk H
              clear H
              go_wp2
              go_loopg [7, 9] k2 (fun kq v7 v9 w' => ∃ (x7_3 : Int) (x9_3 : Int), v7 = .int .i64 x7_3 ∧ v9 = .int .i64 x9_3 ∧ Aside0 (spec_liMany.l1 kq a1 a2 x7_3 x9_3 = some r) ∧ Aside0 (kq ≤ k2) ∧ Drawn0 w w')
              case atStart => exact ⟨(x7_2), (1), (by first | rfl | (simp; done) | (simp [*]; done)), (by first | rfl | (simp; done) | (simp [*]; done)), H', ⟨Nat.le_refl _⟩, by repeat (first | exact Drawn0.refl _ | apply Drawn0.step)⟩
              case round =>
                clear H'
                try clear p2
                try clear c3
                try clear c5
                try clear c5b0
                try clear c6
                try clear c6b0
                try clear p6
                try clear c7
                try clear c8
                try clear c8b0
                try clear c9
                try clear c9b0
                try clear c9b1
                try clear p2
                obtain ⟨x7_3, x9_3, rfl, rfl, HA, HK3, ⟨m3, rfl⟩⟩ := hrel
                cases gk with
                | zero => exact absurd HA.out (by simp [spec_liMany.l1])
                | succ k3 =>
                  have H := HA.out
                  clear HA
                  simp only [spec_liMany.l1] at H
                  by_cases c10 : x9_3 ≤ a2
                  · rw [if_pos c10] at H
                    have c10b0 : decide (x9_3 ≤ a2) = true := decide_eq_true c10
                    clear c10
                    by_cases c11 : x9_3 = 0
                    · rw [if_pos c11] at H
                      exact absurd H (by simp)
                    · rw [if_neg c11] at H
                      have c11b0 : (x9_3 == 0) = false := beq_eq_false_iff_ne.mpr c11
                      have c11b1 : (x9_3 != 0) = true := bne_iff_ne.mpr c11
                      have H' := Aside0.mk H
                      clear H
                      go_wp2
                      go_roundg k3
                      case measure => have := HJ3.out; have := HK2.out; have := HK3.out; omega
                      case rel => exact ⟨(wrap64 (Int.tdiv (wrap64 (x7_3 * (wrap64 (a1 + x9_3)))) x9_3)), (wrap64 (x9_3 + 1)), (by first | rfl | (simp; done) | (simp [*]; done)), (by first | rfl | (simp; done) | (simp [*]; done)), H', ⟨by have := HJ3.out; have := HK2.out; have := HK3.out; omega⟩, by repeat (first | exact Drawn0.refl _ | apply Drawn0.step)⟩
                  · rw [if_neg c10] at H
                    have c10b0 : decide (x9_3 ≤ a2) = false := decide_eq_false c10
                    clear c10
                    obtain rfl := Option.some.inj H
                    go_wp2
                    go_ret
                    exact ⟨by first | rfl | (simp; done) | (simp [*]; done), by repeat (first | exact Drawn0.refl _ | apply Drawn0.step)⟩

/-! ### spec_RankOfLine: function 23 -/
def spec_RankOfLine.l0 : Nat → ByteArray → Int → Int → Int → Int → Int → Option (Int × Bool)
  | 0, _, _, _, _, _, _ => none
  | k + 1, x0, x4, x5, x6, x7, x8 => if x8 < (x0.size : Int) then (if 0 ≤ x8 then (if (bt x0 x8) = 46 then (spec_RankOfLine.l0 k x0 x4 x5 (wrap64 (x6 - 1)) x7 (wrap64 (x8 + 1))) else (if (bt x0 x8) = 70 then ((spec_liMany.f k x5 (wrap64 (x6 - 1)) x7).bind fun t137 => (spec_RankOfLine.l0 k x0 (wrap64 (x4 + t137)) x5 x6 (wrap64 (x7 - 1)) (wrap64 (x8 + 1)))) else ((spec_liMany.f k x5 (wrap64 (x6 - 1)) x7).bind fun t138 => ((spec_liMany.f k x5 x6 (wrap64 (x7 - 1))).bind fun t139 => (spec_RankOfLine.l0 k x0 (wrap64 (x4 + (wrap64 (t138 + t139)))) (wrap64 (x5 - 1)) x6 x7 (wrap64 (x8 + 1))))))) else (none)) else (some (x4, true))
def spec_RankOfLine.f (k : Nat) (a0 : ByteArray) : Option (Int × Bool) := (spec_liGood.f k a0).bind fun t133 => (if t133 = true then ((spec_liCount.f k a0 84).bind fun t134 => ((spec_liCount.f k a0 46).bind fun t135 => ((spec_liCount.f k a0 70).bind fun t136 => (spec_RankOfLine.l0 k a0 0 t134 t135 t136 0)))) else (some (0, false)))
theorem spec_RankOfLine.mono_l : ∀ k, (∀ y0 y1 y2 y3 y4 y5, LeO (spec_RankOfLine.l0 k y0 y1 y2 y3 y4 y5) (spec_RankOfLine.l0 (k + 1) y0 y1 y2 y3 y4 y5))
  | 0 => fun _ _ _ _ _ _ r h => by simp [spec_RankOfLine.l0] at h
  | k + 1 => by
    have ih0 := spec_RankOfLine.mono_l k
    · intro y0 y1 y2 y3 y4 y5
      unfold spec_RankOfLine.l0
      repeat' first
      | (with_reducible exact ih0 _ _ _ _ _ _)
      | (with_reducible exact spec_liCount.mono _ _ _)
      | (with_reducible exact spec_liGood.mono _ _)
      | (with_reducible exact spec_liMany.mono _ _ _ _)
      | (with_reducible exact LeO.refl _)
      | (with_reducible exact LeO.none _)
      | (with_reducible refine LeO.ite ?_ ?_)
      | (with_reducible refine LeO.bind ?_ (fun _ => ?_))
      | exact ih0 _ _ _ _ _ _
      | exact spec_liCount.mono _ _ _
      | exact spec_liGood.mono _ _
      | exact spec_liMany.mono _ _ _ _
      | exact LeO.none _
      | refine LeO.ite ?_ ?_
      | refine LeO.bind ?_ (fun _ => ?_)
theorem spec_RankOfLine.mono : ∀ a0 k, LeO (spec_RankOfLine.f k a0) (spec_RankOfLine.f (k + 1) a0) := by
  intro a0 k
  have ih0 := spec_RankOfLine.mono_l k
  unfold spec_RankOfLine.f
  repeat' first
      | (with_reducible exact ih0 _ _ _ _ _ _)
      | (with_reducible exact spec_liCount.mono _ _ _)
      | (with_reducible exact spec_liGood.mono _ _)
      | (with_reducible exact spec_liMany.mono _ _ _ _)
      | (with_reducible exact LeO.refl _)
      | (with_reducible exact LeO.none _)
      | (with_reducible refine LeO.ite ?_ ?_)
      | (with_reducible refine LeO.bind ?_ (fun _ => ?_))
      | exact ih0 _ _ _ _ _ _
      | exact spec_liCount.mono _ _ _
      | exact spec_liGood.mono _ _
      | exact spec_liMany.mono _ _ _ _
      | exact LeO.none _
      | refine LeO.ite ?_ ?_
      | refine LeO.bind ?_ (fun _ => ?_)
set_option maxHeartbeats 8000000 in
set_option maxRecDepth 100000 in
theorem spec_RankOfLine.calls (k : Nat) (a0 : ByteArray) (r1 : Int) (r2 : Bool) (w : World) (h : spec_RankOfLine.f k a0 = some (r1, r2)) :
    Calls Tryd.prog 23 #[.string a0] w fun e w' => e = .returned (.tuple #[.int .i64 r1, .bool r2]) ∧ Drawn0 w w' := by
  have H : ((spec_liGood.f k a0).bind fun t133 => (if t133 = true then ((spec_liCount.f k a0 84).bind fun t134 => ((spec_liCount.f k a0 46).bind fun t135 => ((spec_liCount.f k a0 70).bind fun t136 => (spec_RankOfLine.l0 k a0 0 t134 t135 t136 0)))) else (some (0, false)))) = some (r1, r2) := h
  clear h
  replace H := Option.bind_eq_some_iff.mp H
  obtain ⟨t133, A20, H⟩ := H
  replace H : (if t133 = true then ((spec_liCount.f k a0 84).bind fun t134 => ((spec_liCount.f k a0 46).bind fun t135 => ((spec_liCount.f k a0 70).bind fun t136 => (spec_RankOfLine.l0 k a0 0 t134 t135 t136 0)))) else (some (0, false))) = some (r1, r2) := H
  have A2 := Aside0.mk A20
  clear A20
  by_cases c3 : t133 = true
  · subst c3
    have H1 : ((spec_liCount.f k a0 84).bind fun t134 => ((spec_liCount.f k a0 46).bind fun t135 => ((spec_liCount.f k a0 70).bind fun t136 => (spec_RankOfLine.l0 k a0 0 t134 t135 t136 0)))) = some (r1, r2) := by rw [if_pos rfl] at H; exact H
    clear H
    have H := H1
    clear H1
    replace H := Option.bind_eq_some_iff.mp H
    obtain ⟨t134, A40, H⟩ := H
    replace H : ((spec_liCount.f k a0 46).bind fun t135 => ((spec_liCount.f k a0 70).bind fun t136 => (spec_RankOfLine.l0 k a0 0 t134 t135 t136 0))) = some (r1, r2) := H
    have A4 := Aside0.mk A40
    clear A40
    replace H := Option.bind_eq_some_iff.mp H
    obtain ⟨t135, A50, H⟩ := H
    replace H : ((spec_liCount.f k a0 70).bind fun t136 => (spec_RankOfLine.l0 k a0 0 t134 t135 t136 0)) = some (r1, r2) := H
    have A5 := Aside0.mk A50
    clear A50
    replace H := Option.bind_eq_some_iff.mp H
    obtain ⟨t136, A60, H⟩ := H
    replace H : (spec_RankOfLine.l0 k a0 0 t134 t135 t136 0) = some (r1, r2) := H
    have A6 := Aside0.mk A60
    clear A60
    have H' := Aside0.mk H
    clear H
    go_enter Tryd.func23, Tryd.ntmps23
    go_wp2_with (first | ((with_reducible refine gate_callee (f := 59) rfl ?_); refine goesL_ (some 10) rfl rfl Tryd.func59 (by kernel_rfl) rfl #[.string a0] rfl (by (try simp only [List.map_toArray, List.map_cons, List.map_nil]); first | done | rfl | (simp only [List.length_drop, List.length_take]; rfl)) ?_; (with_reducible refine (spec_liGood.calls k a0 true _ A2.out).mono ?_); rintro e w' ⟨rfl, ⟨nd, rfl⟩⟩; refine ⟨_, rfl, ?_⟩) | ((with_reducible refine gate_callee (f := 60) rfl ?_); refine goesL_ (some 13) rfl rfl Tryd.func60 (by kernel_rfl) rfl #[.string a0, .int .u8 84] rfl (by (try simp only [List.map_toArray, List.map_cons, List.map_nil]); first | done | rfl | (simp only [List.length_drop, List.length_take]; rfl)) ?_; (with_reducible refine (spec_liCount.calls k a0 84 t134 _ A4.out).mono ?_); rintro e w' ⟨rfl, ⟨nd, rfl⟩⟩; refine ⟨_, rfl, ?_⟩) | ((with_reducible refine gate_callee (f := 60) rfl ?_); refine goesL_ (some 15) rfl rfl Tryd.func60 (by kernel_rfl) rfl #[.string a0, .int .u8 46] rfl (by (try simp only [List.map_toArray, List.map_cons, List.map_nil]); first | done | rfl | (simp only [List.length_drop, List.length_take]; rfl)) ?_; (with_reducible refine (spec_liCount.calls k a0 46 t135 _ A5.out).mono ?_); rintro e w' ⟨rfl, ⟨nd, rfl⟩⟩; refine ⟨_, rfl, ?_⟩) | ((with_reducible refine gate_callee (f := 60) rfl ?_); refine goesL_ (some 17) rfl rfl Tryd.func60 (by kernel_rfl) rfl #[.string a0, .int .u8 70] rfl (by (try simp only [List.map_toArray, List.map_cons, List.map_nil]); first | done | rfl | (simp only [List.length_drop, List.length_take]; rfl)) ?_; (with_reducible refine (spec_liCount.calls k a0 70 t136 _ A6.out).mono ?_); rintro e w' ⟨rfl, ⟨nd, rfl⟩⟩; refine ⟨_, rfl, ?_⟩))
    go_loopg [4, 5, 6, 7, 8] k (fun kq v4 v5 v6 v7 v8 w' => ∃ (x4_1 : Int) (x5_1 : Int) (x6_1 : Int) (x7_1 : Int) (x8_1 : Int), v4 = .int .i64 x4_1 ∧ v5 = .int .i64 x5_1 ∧ v6 = .int .i64 x6_1 ∧ v7 = .int .i64 x7_1 ∧ v8 = .int .i64 x8_1 ∧ Aside0 (spec_RankOfLine.l0 kq a0 x4_1 x5_1 x6_1 x7_1 x8_1 = some (r1, r2)) ∧ Aside0 (kq ≤ k) ∧ Drawn0 w w')
    case atStart => exact ⟨(0), (t134), (t135), (t136), (0), (by first | rfl | (simp; done) | (simp [*]; done)), (by first | rfl | (simp; done) | (simp [*]; done)), (by first | rfl | (simp; done) | (simp [*]; done)), (by first | rfl | (simp; done) | (simp [*]; done)), (by first | rfl | (simp; done) | (simp [*]; done)), H', ⟨Nat.le_refl _⟩, by repeat (first | exact Drawn0.refl _ | apply Drawn0.step)⟩
    case round =>
      clear H'
      try clear c2
      try clear p2
      try clear c3
      try clear c5
      try clear c6
      obtain ⟨x4_1, x5_1, x6_1, x7_1, x8_1, rfl, rfl, rfl, rfl, rfl, HA, HK1, ⟨m1, rfl⟩⟩ := hrel
      cases gk with
      | zero => exact absurd HA.out (by simp [spec_RankOfLine.l0])
      | succ k1 =>
        have H := HA.out
        clear HA
        simp only [spec_RankOfLine.l0] at H
        by_cases c7 : x8_1 < (a0.size : Int)
        · rw [if_pos c7] at H
          have c7b0 : decide (x8_1 < (a0.size : Int)) = true := decide_eq_true c7
          clear c7
          by_cases c8 : 0 ≤ x8_1
          · rw [if_pos c8] at H
            have c8b0 : decide (0 ≤ x8_1) = true := decide_eq_true c8
            clear c8
            by_cases c10 : (bt a0 x8_1) = 46
            · rw [if_pos c10] at H
              have c10b0 : ((bt a0 x8_1) == 46) = true := beq_iff_eq.mpr c10
              have c10b1 : ((bt a0 x8_1) != 46) = false := bne_eq_false_iff_eq.mpr c10
              clear c10
              have H' := Aside0.mk H
              clear H
              have p9 : 0 ≤ (x8_1 : Int) := of_decide_eq_true (by first | (with_reducible assumption) | assumption)
              have q9 : x8_1 < (a0.size : Int) := of_decide_eq_true (by first | (with_reducible assumption) | assumption)
              have hx9 := bt_at a0 x8_1
              replace p9 := eq_true p9
              replace q9 := eq_true q9
              go_wp2
              go_roundg k1
              case measure => have := HK1.out; omega
              case rel => exact ⟨(x4_1), (x5_1), (wrap64 (x6_1 - 1)), (x7_1), (wrap64 (x8_1 + 1)), (by first | rfl | (simp; done) | (simp [*]; done)), (by first | rfl | (simp; done) | (simp [*]; done)), (by first | rfl | (simp; done) | (simp [*]; done)), (by first | rfl | (simp; done) | (simp [*]; done)), (by first | rfl | (simp; done) | (simp [*]; done)), H', ⟨by have := HK1.out; omega⟩, by repeat (first | exact Drawn0.refl _ | apply Drawn0.step)⟩
            · rw [if_neg c10] at H
              have c10b0 : ((bt a0 x8_1) == 46) = false := beq_eq_false_iff_ne.mpr c10
              have c10b1 : ((bt a0 x8_1) != 46) = true := bne_iff_ne.mpr c10
              by_cases c11 : (bt a0 x8_1) = 70
              · rw [if_pos c11] at H
                have c11b0 : ((bt a0 x8_1) == 70) = true := beq_iff_eq.mpr c11
                have c11b1 : ((bt a0 x8_1) != 70) = false := bne_eq_false_iff_eq.mpr c11
                clear c11
                replace H := Option.bind_eq_some_iff.mp H
                obtain ⟨t137, A120, H⟩ := H
                replace H : (spec_RankOfLine.l0 k1 a0 (wrap64 (x4_1 + t137)) x5_1 x6_1 (wrap64 (x7_1 - 1)) (wrap64 (x8_1 + 1))) = some (r1, r2) := H
                have A12 := Aside0.mk A120
                clear A120
                have H' := Aside0.mk H
                clear H
                have p9 : 0 ≤ (x8_1 : Int) := of_decide_eq_true (by first | (with_reducible assumption) | assumption)
                have q9 : x8_1 < (a0.size : Int) := of_decide_eq_true (by first | (with_reducible assumption) | assumption)
                have hx9 := bt_at a0 x8_1
                replace p9 := eq_true p9
                replace q9 := eq_true q9
                go_wp2_with (first | ((with_reducible refine gate_callee (f := 61) rfl ?_); refine goesL_ (some 53) rfl rfl Tryd.func61 (by kernel_rfl) rfl #[.int .i64 x5_1, .int .i64 (wrap64 (x6_1 - 1)), .int .i64 x7_1] rfl (by (try simp only [List.map_toArray, List.map_cons, List.map_nil]); first | done | rfl | (simp only [List.length_drop, List.length_take]; rfl)) ?_; (with_reducible refine (spec_liMany.calls k1 x5_1 (wrap64 (x6_1 - 1)) x7_1 t137 _ A12.out).mono ?_); rintro e w' ⟨rfl, ⟨nd, rfl⟩⟩; refine ⟨_, rfl, ?_⟩))
                go_roundg k1
                case measure => have := HK1.out; omega
                case rel => exact ⟨(wrap64 (x4_1 + t137)), (x5_1), (x6_1), (wrap64 (x7_1 - 1)), (wrap64 (x8_1 + 1)), (by first | rfl | (simp; done) | (simp [*]; done)), (by first | rfl | (simp; done) | (simp [*]; done)), (by first | rfl | (simp; done) | (simp [*]; done)), (by first | rfl | (simp; done) | (simp [*]; done)), (by first | rfl | (simp; done) | (simp [*]; done)), H', ⟨by have := HK1.out; omega⟩, by repeat (first | exact Drawn0.refl _ | apply Drawn0.step)⟩
              · rw [if_neg c11] at H
                have c11b0 : ((bt a0 x8_1) == 70) = false := beq_eq_false_iff_ne.mpr c11
                have c11b1 : ((bt a0 x8_1) != 70) = true := bne_iff_ne.mpr c11
                replace H := Option.bind_eq_some_iff.mp H
                obtain ⟨t138, A130, H⟩ := H
                replace H : ((spec_liMany.f k1 x5_1 x6_1 (wrap64 (x7_1 - 1))).bind fun t139 => (spec_RankOfLine.l0 k1 a0 (wrap64 (x4_1 + (wrap64 (t138 + t139)))) (wrap64 (x5_1 - 1)) x6_1 x7_1 (wrap64 (x8_1 + 1)))) = some (r1, r2) := H
                have A13 := Aside0.mk A130
                clear A130
                replace H := Option.bind_eq_some_iff.mp H
                obtain ⟨t139, A140, H⟩ := H
                replace H : (spec_RankOfLine.l0 k1 a0 (wrap64 (x4_1 + (wrap64 (t138 + t139)))) (wrap64 (x5_1 - 1)) x6_1 x7_1 (wrap64 (x8_1 + 1))) = some (r1, r2) := H
                have A14 := Aside0.mk A140
                clear A140
                have H' := Aside0.mk H
                clear H
                have p9 : 0 ≤ (x8_1 : Int) := of_decide_eq_true (by first | (with_reducible assumption) | assumption)
                have q9 : x8_1 < (a0.size : Int) := of_decide_eq_true (by first | (with_reducible assumption) | assumption)
                have hx9 := bt_at a0 x8_1
                replace p9 := eq_true p9
                replace q9 := eq_true q9
                go_wp2_with (first | ((with_reducible refine gate_callee (f := 61) rfl ?_); refine goesL_ (some 32) rfl rfl Tryd.func61 (by kernel_rfl) rfl #[.int .i64 x5_1, .int .i64 (wrap64 (x6_1 - 1)), .int .i64 x7_1] rfl (by (try simp only [List.map_toArray, List.map_cons, List.map_nil]); first | done | rfl | (simp only [List.length_drop, List.length_take]; rfl)) ?_; (with_reducible refine (spec_liMany.calls k1 x5_1 (wrap64 (x6_1 - 1)) x7_1 t138 _ A13.out).mono ?_); rintro e w' ⟨rfl, ⟨nd, rfl⟩⟩; refine ⟨_, rfl, ?_⟩) | ((with_reducible refine gate_callee (f := 61) rfl ?_); refine goesL_ (some 37) rfl rfl Tryd.func61 (by kernel_rfl) rfl #[.int .i64 x5_1, .int .i64 x6_1, .int .i64 (wrap64 (x7_1 - 1))] rfl (by (try simp only [List.map_toArray, List.map_cons, List.map_nil]); first | done | rfl | (simp only [List.length_drop, List.length_take]; rfl)) ?_; (with_reducible refine (spec_liMany.calls k1 x5_1 x6_1 (wrap64 (x7_1 - 1)) t139 _ A14.out).mono ?_); rintro e w' ⟨rfl, ⟨nd, rfl⟩⟩; refine ⟨_, rfl, ?_⟩))
                go_roundg k1
                case measure => have := HK1.out; omega
                case rel => exact ⟨(wrap64 (x4_1 + (wrap64 (t138 + t139)))), (wrap64 (x5_1 - 1)), (x6_1), (x7_1), (wrap64 (x8_1 + 1)), (by first | rfl | (simp; done) | (simp [*]; done)), (by first | rfl | (simp; done) | (simp [*]; done)), (by first | rfl | (simp; done) | (simp [*]; done)), (by first | rfl | (simp; done) | (simp [*]; done)), (by first | rfl | (simp; done) | (simp [*]; done)), H', ⟨by have := HK1.out; omega⟩, by repeat (first | exact Drawn0.refl _ | apply Drawn0.step)⟩
          · rw [if_neg c8] at H
            exact absurd H (by simp)
        · rw [if_neg c7] at H
          have c7b0 : decide (x8_1 < (a0.size : Int)) = false := decide_eq_false c7
          clear c7
          simp only [Option.some.injEq, Prod.mk.injEq] at H
          obtain ⟨rfl, rfl⟩ := H
          go_wp2
          go_ret2
          exact ⟨by first | rfl | (simp; done) | (simp [*]; done), by repeat (first | exact Drawn0.refl _ | apply Drawn0.step)⟩
  · replace c3 := Bool.eq_false_iff.mpr c3
    subst c3
    have H1 : (some (0, false)) = some (r1, r2) := by rw [if_neg (show ¬ (false = true) by decide)] at H; exact H
    clear H
    have H := H1
    clear H1
    simp only [Option.some.injEq, Prod.mk.injEq] at H
    obtain ⟨rfl, rfl⟩ := H
    go_enter Tryd.func23, Tryd.ntmps23
    go_wp2_with (first | ((with_reducible refine gate_callee (f := 59) rfl ?_); refine goesL_ (some 10) rfl rfl Tryd.func59 (by kernel_rfl) rfl #[.string a0] rfl (by (try simp only [List.map_toArray, List.map_cons, List.map_nil]); first | done | rfl | (simp only [List.length_drop, List.length_take]; rfl)) ?_; (with_reducible refine (spec_liGood.calls k a0 false _ A2.out).mono ?_); rintro e w' ⟨rfl, ⟨nd, rfl⟩⟩; refine ⟨_, rfl, ?_⟩))
    go_ret2
    exact ⟨by first | rfl | (simp; done) | (simp [*]; done), by repeat (first | exact Drawn0.refl _ | apply Drawn0.step)⟩

/-! ### impl_CountOf: function 24 -/
def impl_CountOf.f (a0 : ByteArray) : Option (Int × Int × Int × Bool) := (impl_IsLine.f a0).bind fun t140 => (if t140 = true then ((impl_count.f a0).bind fun bt141 => (some (bt141.1, bt141.2.1, bt141.2.2, true))) else (some (0, 0, 0, false)))
set_option maxHeartbeats 8000000 in
set_option maxRecDepth 100000 in
theorem impl_CountOf.calls (a0 : ByteArray) (r1 : Int) (r2 : Int) (r3 : Int) (r4 : Bool) (w : World) (h : impl_CountOf.f a0 = some (r1, r2, r3, r4)) :
    Calls Tryd.prog 24 #[.string a0] w fun e w' => e = .returned (.tuple #[.int .i64 r1, .int .i64 r2, .int .i64 r3, .bool r4]) ∧ Below w.heap.size w w' := by
  have HB := Aside0.mk (Below.refl w.heap.size w)
  have H : ((impl_IsLine.f a0).bind fun t140 => (if t140 = true then ((impl_count.f a0).bind fun bt141 => (some (bt141.1, bt141.2.1, bt141.2.2, true))) else (some (0, 0, 0, false)))) = some (r1, r2, r3, r4) := h
  clear h
  replace H := Option.bind_eq_some_iff.mp H
  obtain ⟨t140, A20, H⟩ := H
  replace H : (if t140 = true then ((impl_count.f a0).bind fun bt141 => (some (bt141.1, bt141.2.1, bt141.2.2, true))) else (some (0, 0, 0, false))) = some (r1, r2, r3, r4) := H
  have A2 := Aside0.mk A20
  clear A20
  by_cases c3 : t140 = true
  · subst c3
    have H1 : ((impl_count.f a0).bind fun bt141 => (some (bt141.1, bt141.2.1, bt141.2.2, true))) = some (r1, r2, r3, r4) := by rw [if_pos rfl] at H; exact H
    clear H
    have H := H1
    clear H1
    replace H := Option.bind_eq_some_iff.mp H
    obtain ⟨⟨t141, t142, t143⟩, A40, H⟩ := H
    replace H : (some (t141, t142, t143, true)) = some (r1, r2, r3, r4) := H
    have A4 := Aside0.mk A40
    clear A40
    simp only [Option.some.injEq, Prod.mk.injEq] at H
    obtain ⟨rfl, rfl, rfl, rfl⟩ := H
    go_enter Tryd.func24, Tryd.ntmps24
    go_wp2_with (first | ((with_reducible refine gate_callee (f := 48) rfl ?_); refine goesL_ (some 10) rfl rfl Tryd.func48 (by kernel_rfl) rfl #[.string a0] rfl (by (try simp only [List.map_toArray, List.map_cons, List.map_nil]); first | done | rfl | (simp only [List.length_drop, List.length_take]; rfl)) ?_; (with_reducible refine (impl_IsLine.calls a0 true _ A2.out).mono ?_); rintro e w5 ⟨rfl, hb⟩; refine ⟨_, rfl, ?_⟩; have n0_ := Aside0.mk (below_step (by repeat (first | (with_reducible first | exact HB.out | apply below_alloc | apply pw_below_drewN | apply below_drew1) | exact HB.out)) hb); clear HB; have HB := n0_; clear n0_; (try clear hb); (try clear hb2); (try clear hk); (try clear hi)) | ((with_reducible refine gate_callee (f := 56) rfl ?_); refine goesL_ (some 14) rfl rfl Tryd.func56 (by kernel_rfl) rfl #[.string a0] rfl (by (try simp only [List.map_toArray, List.map_cons, List.map_nil]); first | done | rfl | (simp only [List.length_drop, List.length_take]; rfl)) ?_; (with_reducible refine (impl_count.calls a0 t141 t142 t143 _ A4.out).mono ?_); rintro e w' ⟨rfl, ⟨nd, rfl⟩⟩; refine ⟨_, rfl, ?_⟩))
    refine bodyPost_ret (results_list (rs := [.tmp 2, .tmp 3, .tmp 4, .tmp 5]) rfl (by simp) (.tmp (.tmp (.tmp (.tmp .nil))))) rfl ?_
    exact ⟨by first | rfl | (simp [errW_none, errW_some] <;> rfl) | (simp [*, errW_none, errW_some] <;> rfl), by repeat (first | (with_reducible first | exact HB.out | apply below_alloc | apply pw_below_drewN | apply below_drew1) | exact HB.out)⟩
  · replace c3 := Bool.eq_false_iff.mpr c3
    subst c3
    have H1 : (some (0, 0, 0, false)) = some (r1, r2, r3, r4) := by rw [if_neg (show ¬ (false = true) by decide)] at H; exact H
    clear H
    have H := H1
    clear H1
    simp only [Option.some.injEq, Prod.mk.injEq] at H
    obtain ⟨rfl, rfl, rfl, rfl⟩ := H
    go_enter Tryd.func24, Tryd.ntmps24
    go_wp2_with (first | ((with_reducible refine gate_callee (f := 48) rfl ?_); refine goesL_ (some 10) rfl rfl Tryd.func48 (by kernel_rfl) rfl #[.string a0] rfl (by (try simp only [List.map_toArray, List.map_cons, List.map_nil]); first | done | rfl | (simp only [List.length_drop, List.length_take]; rfl)) ?_; (with_reducible refine (impl_IsLine.calls a0 false _ A2.out).mono ?_); rintro e w6 ⟨rfl, hb⟩; refine ⟨_, rfl, ?_⟩; have n0_ := Aside0.mk (below_step (by repeat (first | (with_reducible first | exact HB.out | apply below_alloc | apply pw_below_drewN | apply below_drew1) | exact HB.out)) hb); clear HB; have HB := n0_; clear n0_; (try clear hb); (try clear hb2); (try clear hk); (try clear hi)))
    refine bodyPost_ret (results_list (rs := [.tmp 2, .tmp 3, .tmp 4, .tmp 5]) rfl (by simp) (.tmp (.tmp (.tmp (.tmp .nil))))) rfl ?_
    exact ⟨by first | rfl | (simp [errW_none, errW_some] <;> rfl) | (simp [*, errW_none, errW_some] <;> rfl), by repeat (first | (with_reducible first | exact HB.out | apply below_alloc | apply pw_below_drewN | apply below_drew1) | exact HB.out)⟩

/-! ### spec_CountOf: function 25 -/
def spec_CountOf.f (k : Nat) (a0 : ByteArray) : Option (Int × Int × Int × Bool) := (spec_liGood.f k a0).bind fun t144 => (if t144 = true then ((spec_liCount.f k a0 84).bind fun t145 => ((spec_liCount.f k a0 46).bind fun t146 => ((spec_liCount.f k a0 70).bind fun t147 => (some (t145, t146, t147, true))))) else (some (0, 0, 0, false)))
theorem spec_CountOf.mono : ∀ a0 k, LeO (spec_CountOf.f k a0) (spec_CountOf.f (k + 1) a0) := by
  intro a0 k
  unfold spec_CountOf.f
  repeat' first
      | (with_reducible exact spec_liCount.mono _ _ _)
      | (with_reducible exact spec_liGood.mono _ _)
      | (with_reducible exact LeO.refl _)
      | (with_reducible exact LeO.none _)
      | (with_reducible refine LeO.ite ?_ ?_)
      | (with_reducible refine LeO.bind ?_ (fun _ => ?_))
      | exact spec_liCount.mono _ _ _
      | exact spec_liGood.mono _ _
      | exact LeO.none _
      | refine LeO.ite ?_ ?_
      | refine LeO.bind ?_ (fun _ => ?_)
set_option maxHeartbeats 8000000 in
set_option maxRecDepth 100000 in
theorem spec_CountOf.calls (k : Nat) (a0 : ByteArray) (r1 : Int) (r2 : Int) (r3 : Int) (r4 : Bool) (w : World) (h : spec_CountOf.f k a0 = some (r1, r2, r3, r4)) :
    Calls Tryd.prog 25 #[.string a0] w fun e w' => e = .returned (.tuple #[.int .i64 r1, .int .i64 r2, .int .i64 r3, .bool r4]) ∧ Drawn0 w w' := by
  have H : ((spec_liGood.f k a0).bind fun t144 => (if t144 = true then ((spec_liCount.f k a0 84).bind fun t145 => ((spec_liCount.f k a0 46).bind fun t146 => ((spec_liCount.f k a0 70).bind fun t147 => (some (t145, t146, t147, true))))) else (some (0, 0, 0, false)))) = some (r1, r2, r3, r4) := h
  clear h
  replace H := Option.bind_eq_some_iff.mp H
  obtain ⟨t144, A20, H⟩ := H
  replace H : (if t144 = true then ((spec_liCount.f k a0 84).bind fun t145 => ((spec_liCount.f k a0 46).bind fun t146 => ((spec_liCount.f k a0 70).bind fun t147 => (some (t145, t146, t147, true))))) else (some (0, 0, 0, false))) = some (r1, r2, r3, r4) := H
  have A2 := Aside0.mk A20
  clear A20
  by_cases c3 : t144 = true
  · subst c3
    have H1 : ((spec_liCount.f k a0 84).bind fun t145 => ((spec_liCount.f k a0 46).bind fun t146 => ((spec_liCount.f k a0 70).bind fun t147 => (some (t145, t146, t147, true))))) = some (r1, r2, r3, r4) := by rw [if_pos rfl] at H; exact H
    clear H
    have H := H1
    clear H1
    replace H := Option.bind_eq_some_iff.mp H
    obtain ⟨t145, A40, H⟩ := H
    replace H : ((spec_liCount.f k a0 46).bind fun t146 => ((spec_liCount.f k a0 70).bind fun t147 => (some (t145, t146, t147, true)))) = some (r1, r2, r3, r4) := H
    have A4 := Aside0.mk A40
    clear A40
    replace H := Option.bind_eq_some_iff.mp H
    obtain ⟨t146, A50, H⟩ := H
    replace H : ((spec_liCount.f k a0 70).bind fun t147 => (some (t145, t146, t147, true))) = some (r1, r2, r3, r4) := H
    have A5 := Aside0.mk A50
    clear A50
    replace H := Option.bind_eq_some_iff.mp H
    obtain ⟨t147, A60, H⟩ := H
    replace H : (some (t145, t146, t147, true)) = some (r1, r2, r3, r4) := H
    have A6 := Aside0.mk A60
    clear A60
    simp only [Option.some.injEq, Prod.mk.injEq] at H
    obtain ⟨rfl, rfl, rfl, rfl⟩ := H
    go_enter Tryd.func25, Tryd.ntmps25
    go_wp2_with (first | ((with_reducible refine gate_callee (f := 59) rfl ?_); refine goesL_ (some 7) rfl rfl Tryd.func59 (by kernel_rfl) rfl #[.string a0] rfl (by (try simp only [List.map_toArray, List.map_cons, List.map_nil]); first | done | rfl | (simp only [List.length_drop, List.length_take]; rfl)) ?_; (with_reducible refine (spec_liGood.calls k a0 true _ A2.out).mono ?_); rintro e w' ⟨rfl, ⟨nd, rfl⟩⟩; refine ⟨_, rfl, ?_⟩) | ((with_reducible refine gate_callee (f := 60) rfl ?_); refine goesL_ (some 10) rfl rfl Tryd.func60 (by kernel_rfl) rfl #[.string a0, .int .u8 84] rfl (by (try simp only [List.map_toArray, List.map_cons, List.map_nil]); first | done | rfl | (simp only [List.length_drop, List.length_take]; rfl)) ?_; (with_reducible refine (spec_liCount.calls k a0 84 t145 _ A4.out).mono ?_); rintro e w' ⟨rfl, ⟨nd, rfl⟩⟩; refine ⟨_, rfl, ?_⟩) | ((with_reducible refine gate_callee (f := 60) rfl ?_); refine goesL_ (some 12) rfl rfl Tryd.func60 (by kernel_rfl) rfl #[.string a0, .int .u8 46] rfl (by (try simp only [List.map_toArray, List.map_cons, List.map_nil]); first | done | rfl | (simp only [List.length_drop, List.length_take]; rfl)) ?_; (with_reducible refine (spec_liCount.calls k a0 46 t146 _ A5.out).mono ?_); rintro e w' ⟨rfl, ⟨nd, rfl⟩⟩; refine ⟨_, rfl, ?_⟩) | ((with_reducible refine gate_callee (f := 60) rfl ?_); refine goesL_ (some 14) rfl rfl Tryd.func60 (by kernel_rfl) rfl #[.string a0, .int .u8 70] rfl (by (try simp only [List.map_toArray, List.map_cons, List.map_nil]); first | done | rfl | (simp only [List.length_drop, List.length_take]; rfl)) ?_; (with_reducible refine (spec_liCount.calls k a0 70 t147 _ A6.out).mono ?_); rintro e w' ⟨rfl, ⟨nd, rfl⟩⟩; refine ⟨_, rfl, ?_⟩))
    refine bodyPost_ret (results_list (rs := [.tmp 2, .tmp 3, .tmp 4, .tmp 5]) rfl (by simp) (.tmp (.tmp (.tmp (.tmp .nil))))) rfl ?_
    exact ⟨by first | rfl | (simp; done) | (simp [*]; done), by repeat (first | exact Drawn0.refl _ | apply Drawn0.step)⟩
  · replace c3 := Bool.eq_false_iff.mpr c3
    subst c3
    have H1 : (some (0, 0, 0, false)) = some (r1, r2, r3, r4) := by rw [if_neg (show ¬ (false = true) by decide)] at H; exact H
    clear H
    have H := H1
    clear H1
    simp only [Option.some.injEq, Prod.mk.injEq] at H
    obtain ⟨rfl, rfl, rfl, rfl⟩ := H
    go_enter Tryd.func25, Tryd.ntmps25
    go_wp2_with (first | ((with_reducible refine gate_callee (f := 59) rfl ?_); refine goesL_ (some 7) rfl rfl Tryd.func59 (by kernel_rfl) rfl #[.string a0] rfl (by (try simp only [List.map_toArray, List.map_cons, List.map_nil]); first | done | rfl | (simp only [List.length_drop, List.length_take]; rfl)) ?_; (with_reducible refine (spec_liGood.calls k a0 false _ A2.out).mono ?_); rintro e w' ⟨rfl, ⟨nd, rfl⟩⟩; refine ⟨_, rfl, ?_⟩))
    refine bodyPost_ret (results_list (rs := [.tmp 2, .tmp 3, .tmp 4, .tmp 5]) rfl (by simp) (.tmp (.tmp (.tmp (.tmp .nil))))) rfl ?_
    exact ⟨by first | rfl | (simp; done) | (simp [*]; done), by repeat (first | exact Drawn0.refl _ | apply Drawn0.step)⟩

end Go.Proofs.YtgiphajcffambaaDoor.XA
