/- The Lean functions that the Go functions of this seat compute, each with the proof that the Go function computes it, for every input (laws: FnLinesRankedOfAll). Conditions: none beyond those that each theorem names. Written by a program of this session over the kit's printer. -/
import Derived.Test.YtgiphajcffambaaDoorXA0
import Derived.Test.YtgiphajcffambaaDoorXA1
import Derived.Test.YtgiphajcffambaaDoorXA3
import Derived.Test.YtgiphajcffambaaDoorXA4
import Derived.Test.YtgiphajcffambaaDoorXA5
import Derived.Test.YtgiphajcffambaaDoorXA6
namespace Go.Proofs.YtgiphajcffambaaDoor.XA
open Go.RowKit Go.Proofs.YtgiphajcffambaaDoorW.PrintWords Go.Proofs.YtgiphajcffambaaDoorW.PrintLast Go.Proofs.YtgiphajcffambaaDoorW.PrintMore
attribute [local go_sem] max2_int min2_int max_two min_two max_three min_three max_four min_four   -- for this text's walks alone
attribute [local go_sem] Lib.run_min_strs Go.Proofs.YtgiphajcffambaaDoorXW.run_min2_strs Go.Proofs.YtgiphajcffambaaDoorXW.run_int_string
set_option linter.unusedVariables false
set_option linter.unusedSimpArgs false

/-! ### impl_LineOfRank: function 29 (given) -/
section
open Go Go.RowKit Go.Lib Go.Proofs.YtgiphajcffambaaDoorW.PrintWords Go.Proofs.YtgiphajcffambaaDoorW.PrintLast Go.Proofs.YtgiphajcffambaaDoor.Ranks
theorem u8_info : (Tryd.prog.info? 5).map (fun i => (i.zero, i.size, i.bytes)) = some (some (.int .u8 0), 1, 1) := by kernel_rfl
/-- the place of the sign at which a line with a rank begins -/
def sgnAt (t g f r : Nat) : Nat := if r < GG t g f then 0 else if r < GG t g f + FF t g f then 1 else 2
def ints8 (l : List UInt8) : List Int := l.map fun b => (b.toNat : Int)
def Lor (w0 w : World) (t g f r : Nat) (x o i : Value) : Prop := ∃ (t' g' f' r' : Nat) (pre : List UInt8), pre.length + (t' + g' + f') = t + g + f ∧ i = .int .i64 (pre.length : Int) ∧ x = .int .i64 (r' : Int) ∧ r' < M t' g' f' ∧ pre ++ unrank (t' + g' + f') t' g' f' r' = unrank (t + g + f) t g f r ∧
  w.heap[w0.heap.size + 1]? = some (.cells #[.int .i64 (g' : Int), .int .i64 (f' : Int), .int .i64 (t' : Int)] 66 (0, 0)) ∧ Kd.R (Kd.int .u8) 5 w w0.heap.size (fun _ => True) o (ints8 pre) ∧ Below w0.heap.size w0 w
def Lin (w0 w : World) (t g f q : Nat) (pre : List UInt8) (o s : Value) : Prop := ∃ j : Nat, q ≤ j ∧ j ≤ 2 ∧ s = .int .i64 (j : Int) ∧
  w.heap[w0.heap.size + 1]? = some (.cells #[.int .i64 (g : Int), .int .i64 (f : Int), .int .i64 (t : Int)] 66 (0, 0)) ∧ Kd.R (Kd.int .u8) 5 w w0.heap.size (fun _ => True) o (ints8 pre) ∧ Below w0.heap.size w0 w
theorem below_f (t g f s : Nat) (h : t + g + f ≤ 12) (h2 : s ≤ 2) : impl_below.f (g : Int) (f : Int) (t : Int) (s : Int) = some ((bel t g f s : Nat) : Int) := by
  unfold impl_below.f
  rw [if_pos (by omega), Int.toNat_natCast, Int.toNat_natCast, Int.toNat_natCast, Int.toNat_natCast]
theorem un_step (t g f r : Nat) (h1 : 1 ≤ t + g + f) (h12 : t + g + f ≤ 12) (hr : r < M t g f) :
    (r < GG t g f → unrank (t + g + f) t g f r = 46 :: unrank (t + g + f - 1) t (g - 1) f r ∧ r < M t (g - 1) f) ∧
    (GG t g f ≤ r → r < GG t g f + FF t g f → unrank (t + g + f) t g f r = 70 :: unrank (t + g + f - 1) t g (f - 1) (r - GG t g f) ∧ r - GG t g f < M t g (f - 1)) ∧
    (GG t g f + FF t g f ≤ r → unrank (t + g + f) t g f r = 84 :: unrank (t + g + f - 1) (t - 1) g f (r - (GG t g f + FF t g f)) ∧ r - (GG t g f + FF t g f) < M (t - 1) g f) := by
  obtain ⟨n, hn⟩ : ∃ n, t + g + f = n + 1 := ⟨t + g + f - 1, by omega⟩
  have hrec := M_rec h1 h12
  rw [hn, Nat.add_sub_cancel]
  refine ⟨fun h => ?_, fun h h2 => ?_, fun h => ?_⟩
  · have hg : g ≠ 0 := by rintro rfl; simp [GG] at h
    have e : GG t g f = M t (g - 1) f := by unfold GG; rw [if_neg hg]
    exact ⟨by conv => lhs; unfold unrank
              rw [if_pos h], by omega⟩
  · have hf : f ≠ 0 := by rintro rfl; simp [FF] at h2; omega
    have e : FF t g f = M t g (f - 1) := by unfold FF; rw [if_neg hf]
    exact ⟨by conv => lhs; unfold unrank
              rw [if_neg (by omega), if_pos h2], by omega⟩
  · have ht : t ≠ 0 := by rintro rfl; simp [TT] at hrec; omega
    have e : TT t g f = M (t - 1) g f := by unfold TT; rw [if_neg ht]
    exact ⟨by conv => lhs; unfold unrank
              rw [if_neg (by omega), if_neg (by omega), Nat.sub_sub], by omega⟩
set_option maxHeartbeats 4000000 in
set_option maxRecDepth 1000000 in
theorem impl_LineOfRank.walk (t g f r : Nat) (hs : t + g + f ≤ 12) (hr : r < M t g f) (w : World) (hA : impl_areCounts.f (t : Int) (g : Int) (f : Int) 12 = some true) :
    Calls Tryd.prog 29 #[.int .i64 (t : Int), .int .i64 (g : Int), .int .i64 (f : Int), .int .i64 (r : Int)] w fun e w' => e = .returned (.tuple #[.string ⟨(unrank (t + g + f) t g f r).toArray⟩, .bool true]) ∧ Below w.heap.size w w' := by
  have hm := M_small hs
  have hl := lines_eq t g f hs
  have hw : impl_within.f (r : Int) 0 ((M t g f : Nat) - 1 : Int) = some true := by
    unfold impl_within.f
    rw [if_pos (by omega), decide_eq_true (by omega)]
  have HM : Hid (M t g f = M t g f) := Lib.hid rfl
  generalize hmm : M t g f = m at hl hm hw hr
  clear HM
  have HM := Lib.hid hmm
  clear hmm
  go_enter Tryd.func29, Tryd.ntmps29
  go_wp2_with (first
    | (go_at_call 64; refine (impl_areCounts.calls (t : Int) (g : Int) (f : Int) 12 true _ hA).mono ?_; rintro e w' ⟨rfl, ⟨nd, rfl⟩⟩)
    | (go_at_call 65; refine (impl_lines.calls 100 (t : Int) (g : Int) (f : Int) (m : Int) _ hl).mono ?_; rintro e w' ⟨rfl, ⟨nd2, rfl⟩⟩)
    | (go_at_call 66; refine (impl_within.calls (r : Int) 0 ((m : Int) - 1) true _ hw).mono ?_; rintro e w' ⟨rfl, ⟨nd3, rfl⟩⟩))
  have hO : Kd.R (Kd.int .u8) 5 (((w.drewN (nd + nd2 + nd3)).alloc (.cells #[] 5 (0, 0))).alloc (.cells #[.int .i64 (g : Int), .int .i64 (f : Int), .int .i64 (t : Int)] 66 (0, 0))) w.heap.size (fun _ => True) (.slice (some ⟨w.heap.size, 0, none⟩) 0 0) [] :=
    Kd.R_alloc ⟨fun _ _ => trivial, [], World.ownsRow_lit (w.drewN (nd + nd2 + nd3)) #[] 0 (Nat.le_refl _) (by decide) rfl, Reps.none _ _⟩ _
  have hB : Below w.heap.size w (((w.drewN (nd + nd2 + nd3)).alloc (.cells #[] 5 (0, 0))).alloc (.cells #[.int .i64 (g : Int), .int .i64 (f : Int), .int .i64 (t : Int)] 66 (0, 0))) := below_alloc (below_alloc (pw_below_drewN (Below.refl _ _) _) _) _
  have hb : (((w.drewN (nd + nd2 + nd3)).alloc (.cells #[] 5 (0, 0))).alloc (.cells #[.int .i64 (g : Int), .int .i64 (f : Int), .int .i64 (t : Int)] 66 (0, 0))).heap[w.heap.size + 1]? = some (.cells #[.int .i64 (g : Int), .int .i64 (f : Int), .int .i64 (t : Int)] 66 (0, 0)) := by
    have h := blk_new ((w.drewN (nd + nd2 + nd3)).alloc (.cells #[] 5 (0, 0))) (.cells #[.int .i64 (g : Int), .int .i64 (f : Int), .int .i64 (t : Int)] 66 (0, 0))
    have e : ((w.drewN (nd + nd2 + nd3)).alloc (.cells #[] 5 (0, 0))).heap.size = w.heap.size + 1 := by simp
    rwa [e] at h
  go_loopw [3, 11, 38] (fun x o i wr => Lor w wr t g f r x o i) (fun _ _ i _ => t + g + f - (RowKit.intOf i).toNat)
  case atStart => exact ⟨t, g, f, r, [], by simp, rfl, rfl, HM.out ▸ hr, rfl, hb, hO, hB⟩
  case round =>
    clear hO hB hb hl hw hA hr HM hm
    obtain ⟨t', g', f', r', pre, hn, rfl, rfl, hr, hu, hb, hO, hB⟩ := hrel
    by_cases hlt : pre.length < t + g + f
    · have hdec : decide ((pre.length : Int) < (t : Int) + (g : Int) + (f : Int)) = true := decide_eq_true (by omega)
      have hgb := GG_le (t := t') (g := g') (f := f') (by omega)
      have hfb := FF_le (t := t') (g := g') (f := f') (by omega)
      have htb := TT_le (t := t') (g := g') (f := f') (by omega)
      have hrec := M_rec (t := t') (g := g') (f := f') (by omega) (by omega)
      have hd0 := below_f t' g' f' 0 (by omega) (by omega)
      have hd1 := below_f t' g' f' 1 (by omega) (by omega)
      have hd2 := below_f t' g' f' 2 (by omega) (by omega)
      have e0 : bel t' g' f' 0 = 0 := by simp [bel]
      have e1 : bel t' g' f' 1 = GG t' g' f' := by simp [bel]
      have e2 : bel t' g' f' 2 = GG t' g' f' + FF t' g' f' := by simp [bel]
      rw [e0] at hd0
      rw [e1] at hd1
      rw [e2] at hd2
      clear e0 e1 e2
      have HUU := Lib.hid hu
      have HU := Lib.hid (un_step t' g' f' r' (by omega) (by omega) hr)
      have HUU := Lib.hid hu
      have HU := Lib.hid (un_step t' g' f' r' (by omega) (by omega) hr)
      have HPL : Hid ((ints8 pre).length ≤ 12) := Lib.hid (by unfold ints8; rw [List.length_map]; omega)
      have hrb : r' < 1000000 := Nat.lt_trans hr (M_small (by omega))
      have hbyte0 : ((((⟨#[46, 70, 84]⟩ : ByteArray)[0]'(by decide)).toNat : Nat) : Int) = 46 := rfl
      have hbyte1 : ((((⟨#[46, 70, 84]⟩ : ByteArray)[1]'(by decide)).toNat : Nat) : Int) = 70 := rfl
      have hbyte2 : ((((⟨#[46, 70, 84]⟩ : ByteArray)[2]'(by decide)).toNat : Nat) : Int) = 84 := rfl
      go_wp2
      obtain ⟨wo, rfl⟩ : ∃ wo : World, wo = wr := ⟨_, rfl⟩
      go_loopw [12] (fun s wr => Lin w wr t' g' f' (sgnAt t' g' f' r') pre u11 s) (fun s _ => (RowKit.intOf s).toNat)
      case atStart => exact ⟨2, by unfold sgnAt; split <;> (try split) <;> omega, by omega, rfl, hb, hO, hB⟩
      case round =>
        clear hO hB hb
        obtain ⟨j, hq, hj, rfl, hb2, hO2, hB2⟩ := hrel
        have hs3 : (sgnAt t' g' f' r' = 0 ∧ r' < GG t' g' f' ∧ g' ≠ 0) ∨ (sgnAt t' g' f' r' = 1 ∧ GG t' g' f' ≤ r' ∧ r' < GG t' g' f' + FF t' g' f' ∧ f' ≠ 0) ∨ (sgnAt t' g' f' r' = 2 ∧ GG t' g' f' + FF t' g' f' ≤ r' ∧ t' ≠ 0) := by
          unfold sgnAt
          split
          · exact .inl ⟨rfl, by assumption, by rintro rfl; simp [GG] at *⟩
          · split
            · exact .inr (.inl ⟨rfl, by omega, by assumption, by rintro rfl; simp [FF] at *; omega⟩)
            · exact .inr (.inr ⟨rfl, by omega, by rintro rfl; simp [TT] at *; omega⟩)
        have hc0 : wr.cell? ⟨w.heap.size + 1, 0, none⟩ = some (.int .i64 (g' : Int)) := (blk_cell hb2 0).trans rfl
        have hc1 : wr.cell? ⟨w.heap.size + 1, 1, none⟩ = some (.int .i64 (f' : Int)) := (blk_cell hb2 1).trans rfl
        have hc2 : wr.cell? ⟨w.heap.size + 1, 2, none⟩ = some (.int .i64 (t' : Int)) := (blk_cell hb2 2).trans rfl
        generalize sgnAt t' g' f' r' = q at *
        obtain ⟨y1, hy1⟩ : ∃ y1 : Nat, y1 = GG t' g' f' := ⟨_, rfl⟩
        obtain ⟨y2, hy2⟩ : ∃ y2 : Nat, y2 = GG t' g' f' + FF t' g' f' := ⟨_, rfl⟩
        rw [← hy2] at hd2 hs3
        rw [← hy1] at hd1 hs3
        have hyb : y1 < 1000000 ∧ y2 < 2000000 ∧ y1 ≤ y2 := by omega
        have HY1 := Lib.hid hy1
        have HY2 := Lib.hid hy2
        clear hy1 hy2 hrec hgb hfb htb
        have hj3 : j = 0 ∨ j = 1 ∨ j = 2 := by omega
        rcases hj3 with rfl | rfl | rfl
        · have hg0 : g' ≠ 0 := by omega
          have hz : ((g' : Int) == 0) = false := by simp [hg0]
          have hq2 : r' < y1 := by omega
          clear hs3 hd1 hd2 hq
          go_wp2_with (first | (go_at_call 58; refine (impl_below.calls (g' : Int) (f' : Int) (t' : Int) 0 (0 : Int) _ hd0).mono ?_; rintro e w1 ⟨rfl, hx⟩; have hb3 := blk_below hb2 hx; have hO3 := Kd.R_below hO2 hx; have hB3 := below_step hB2 hx; clear hx hb2 hO2 hB2 hc0 hc1 hc2; have hb2 := hb3; have hO2 := hO3; have hB2 := hB3; clear hb3 hO3 hB3; have hc0 := (blk_cell hb2 0).trans rfl; have hc1 := (blk_cell hb2 1).trans rfl; have hc2 := (blk_cell hb2 2).trans rfl; have hf0 := blk_frozen hb2 0) | (at_builtin; refine Kd.R_append (Kd.int .u8) (w0 := w) w.heap.size rfl (.tmp 63) (.tmp 66) 73 5 (.int .u8 0) 1 rfl Tryd.underlying73 u8_info rfl (by decide) (by omega) u11 (ints8 pre) 46 [.int .u8 46] (fun _ => True) (fun _ => False) rfl ?aX ?aP (fun _ hk => hk.elim) ?aF ?aO ?aB ?aS ?aL ?_; (case aX => (have e_ : ∀ (x_ : World) (p_ : Addr) (u_ : Value), (x_.setCell p_ u_).heap.size = x_.heap.size := fun _ _ _ => by simp); rw [e_]; rfl); (case aP => exact rfl); (case aB => exact below_set hB2 (Nat.le_succ _)); (case aF => exact fun _ _ => trivial); (case aO => exact Kd.R_set hO2 hb2 (by decide) _ _); (case aS => exact below_size (below_set hB2 (Nat.le_succ _))); (case aL => have hle : (ints8 pre).length ≤ 12 := HPL.out; omega); intro v3 w3 ho hbo hg _; have hb4 := blk_grown (blk_set hb2 0 (.int .i64 ((g' : Int) - 1))) hg (Kd.R_ne hO2 hb2 (by decide))))
          have ec : ((g' : Int) - 1) = ((g' - 1 : Nat) : Int) := by omega
          rw [ec] at hb4
          obtain ⟨u1, u2⟩ := HU.out.1 (by rw [← HY1.out]; exact hq2)
          skip
          refine ⟨⟨t', g' - 1, f', r', pre ++ [46], ?_, ?_, ?_, u2, ?_, hb4, ?_, hbo⟩, ?_⟩
          · rw [List.length_append, List.length_singleton]; omega
          · rw [List.length_append, List.length_singleton]; rfl
          · rfl
          · rw [List.append_assoc, List.singleton_append, show t' + (g' - 1) + f' = t' + g' + f' - 1 from by omega, ← u1]; exact HUU.out
          · rw [show ints8 (pre ++ [46]) = ints8 pre ++ [46] from by simp [ints8]]; exact ho
          · simp [RowKit.intOf]; omega
        · clear hd0 hd2
          by_cases ht : f' = 0
          · have hz : ((f' : Int) == 0) = true := by simp [ht]
            clear hd1
            have hq1 : q ≤ 0 := by omega
            clear ht hs3
            go_wp2
            exact ⟨⟨0, hq1, by omega, rfl, hb2, hO2, hB2⟩, by simp [RowKit.intOf]⟩
          · have hz : ((f' : Int) == 0) = false := by simp [ht]
            by_cases hq2 : r' < y1
            · have hq1 : q ≤ 0 := by omega
              clear hs3
              go_wp2_with (first | (go_at_call 58; refine (impl_below.calls (g' : Int) (f' : Int) (t' : Int) 1 (y1 : Int) _ hd1).mono ?_; rintro e w1 ⟨rfl, hx⟩; have hb3 := blk_below hb2 hx; have hO3 := Kd.R_below hO2 hx; have hB3 := below_step hB2 hx; clear hx hb2 hO2 hB2 hc0 hc1 hc2; have hb2 := hb3; have hO2 := hO3; have hB2 := hB3; clear hb3 hO3 hB3; have hc0 := (blk_cell hb2 0).trans rfl; have hc1 := (blk_cell hb2 1).trans rfl; have hc2 := (blk_cell hb2 2).trans rfl; have hf0 := blk_frozen hb2 1))
              exact ⟨⟨0, hq1, by omega, rfl, hb2, hO2, hB2⟩, by simp [RowKit.intOf]⟩
            · have hq1 : q = 1 := by omega
              have hq3 : r' < y2 := by omega
              have hq0 : y1 ≤ r' := by omega
              clear hs3 hq
              go_wp2_with (first | (go_at_call 58; refine (impl_below.calls (g' : Int) (f' : Int) (t' : Int) 1 (y1 : Int) _ hd1).mono ?_; rintro e w1 ⟨rfl, hx⟩; have hb3 := blk_below hb2 hx; have hO3 := Kd.R_below hO2 hx; have hB3 := below_step hB2 hx; clear hx hb2 hO2 hB2 hc0 hc1 hc2; have hb2 := hb3; have hO2 := hO3; have hB2 := hB3; clear hb3 hO3 hB3; have hc0 := (blk_cell hb2 0).trans rfl; have hc1 := (blk_cell hb2 1).trans rfl; have hc2 := (blk_cell hb2 2).trans rfl; have hf0 := blk_frozen hb2 1) | (at_builtin; refine Kd.R_append (Kd.int .u8) (w0 := w) w.heap.size rfl (.tmp 63) (.tmp 66) 73 5 (.int .u8 0) 1 rfl Tryd.underlying73 u8_info rfl (by decide) (by omega) u11 (ints8 pre) 70 [.int .u8 70] (fun _ => True) (fun _ => False) rfl ?aX ?aP (fun _ hk => hk.elim) ?aF ?aO ?aB ?aS ?aL ?_; (case aX => (have e_ : ∀ (x_ : World) (p_ : Addr) (u_ : Value), (x_.setCell p_ u_).heap.size = x_.heap.size := fun _ _ _ => by simp); rw [e_]; rfl); (case aP => exact rfl); (case aB => exact below_set hB2 (Nat.le_succ _)); (case aF => exact fun _ _ => trivial); (case aO => exact Kd.R_set hO2 hb2 (by decide) _ _); (case aS => exact below_size (below_set hB2 (Nat.le_succ _))); (case aL => have hle : (ints8 pre).length ≤ 12 := HPL.out; omega); intro v3 w3 ho hbo hg _; have hb4 := blk_grown (blk_set hb2 1 (.int .i64 ((f' : Int) - 1))) hg (Kd.R_ne hO2 hb2 (by decide))))
              have ec : ((f' : Int) - 1) = ((f' - 1 : Nat) : Int) := by omega
              rw [ec] at hb4
              obtain ⟨u1, u2⟩ := HU.out.2.1 (by rw [← HY1.out]; omega) (by rw [← HY2.out]; omega)
              rw [← HY1.out] at u1 u2
              refine ⟨⟨t', g', f' - 1, r' - y1, pre ++ [70], ?_, ?_, ?_, u2, ?_, hb4, ?_, hbo⟩, ?_⟩
              · rw [List.length_append, List.length_singleton]; omega
              · rw [List.length_append, List.length_singleton]; rfl
              · congr 1; omega
              · rw [List.append_assoc, List.singleton_append, show t' + g' + (f' - 1) = t' + g' + f' - 1 from by omega, ← u1]; exact HUU.out
              · rw [show ints8 (pre ++ [70]) = ints8 pre ++ [70] from by simp [ints8]]; exact ho
              · simp [RowKit.intOf]; omega
        · clear hd0 hd1
          by_cases ht : t' = 0
          · have hz : ((t' : Int) == 0) = true := by simp [ht]
            clear hd2
            have hq1 : q ≤ 1 := by omega
            clear ht hs3
            go_wp2
            exact ⟨⟨1, hq1, by omega, rfl, hb2, hO2, hB2⟩, by simp [RowKit.intOf]⟩
          · have hz : ((t' : Int) == 0) = false := by simp [ht]
            by_cases hq2 : r' < y2
            · have hq1 : q ≤ 1 := by omega
              clear hs3
              go_wp2_with (first | (go_at_call 58; refine (impl_below.calls (g' : Int) (f' : Int) (t' : Int) 2 (y2 : Int) _ hd2).mono ?_; rintro e w1 ⟨rfl, hx⟩; have hb3 := blk_below hb2 hx; have hO3 := Kd.R_below hO2 hx; have hB3 := below_step hB2 hx; clear hx hb2 hO2 hB2 hc0 hc1 hc2; have hb2 := hb3; have hO2 := hO3; have hB2 := hB3; clear hb3 hO3 hB3; have hc0 := (blk_cell hb2 0).trans rfl; have hc1 := (blk_cell hb2 1).trans rfl; have hc2 := (blk_cell hb2 2).trans rfl; have hf0 := blk_frozen hb2 2))
              exact ⟨⟨1, hq1, by omega, rfl, hb2, hO2, hB2⟩, by simp [RowKit.intOf]⟩
            · have hq1 : q = 2 := by omega
              have hq0 : y2 ≤ r' := by omega
              clear hs3 hq
              go_wp2_with (first | (go_at_call 58; refine (impl_below.calls (g' : Int) (f' : Int) (t' : Int) 2 (y2 : Int) _ hd2).mono ?_; rintro e w1 ⟨rfl, hx⟩; have hb3 := blk_below hb2 hx; have hO3 := Kd.R_below hO2 hx; have hB3 := below_step hB2 hx; clear hx hb2 hO2 hB2 hc0 hc1 hc2; have hb2 := hb3; have hO2 := hO3; have hB2 := hB3; clear hb3 hO3 hB3; have hc0 := (blk_cell hb2 0).trans rfl; have hc1 := (blk_cell hb2 1).trans rfl; have hc2 := (blk_cell hb2 2).trans rfl; have hf0 := blk_frozen hb2 2) | (at_builtin; refine Kd.R_append (Kd.int .u8) (w0 := w) w.heap.size rfl (.tmp 63) (.tmp 66) 73 5 (.int .u8 0) 1 rfl Tryd.underlying73 u8_info rfl (by decide) (by omega) u11 (ints8 pre) 84 [.int .u8 84] (fun _ => True) (fun _ => False) rfl ?aX ?aP (fun _ hk => hk.elim) ?aF ?aO ?aB ?aS ?aL ?_; (case aX => (have e_ : ∀ (x_ : World) (p_ : Addr) (u_ : Value), (x_.setCell p_ u_).heap.size = x_.heap.size := fun _ _ _ => by simp); rw [e_]; rfl); (case aP => exact rfl); (case aB => exact below_set hB2 (Nat.le_succ _)); (case aF => exact fun _ _ => trivial); (case aO => exact Kd.R_set hO2 hb2 (by decide) _ _); (case aS => exact below_size (below_set hB2 (Nat.le_succ _))); (case aL => have hle : (ints8 pre).length ≤ 12 := HPL.out; omega); intro v3 w3 ho hbo hg _; have hb4 := blk_grown (blk_set hb2 2 (.int .i64 ((t' : Int) - 1))) hg (Kd.R_ne hO2 hb2 (by decide))))
              have ec : ((t' : Int) - 1) = ((t' - 1 : Nat) : Int) := by omega
              rw [ec] at hb4
              obtain ⟨u1, u2⟩ := HU.out.2.2 (by rw [← HY2.out]; omega)
              rw [← HY2.out] at u1 u2
              refine ⟨⟨t' - 1, g', f', r' - y2, pre ++ [84], ?_, ?_, ?_, u2, ?_, hb4, ?_, hbo⟩, ?_⟩
              · rw [List.length_append, List.length_singleton]; omega
              · rw [List.length_append, List.length_singleton]; rfl
              · congr 1; omega
              · rw [List.append_assoc, List.singleton_append, show (t' - 1) + g' + f' = t' + g' + f' - 1 from by omega, ← u1]; exact HUU.out
              · rw [show ints8 (pre ++ [84]) = ints8 pre ++ [84] from by simp [ints8]]; exact ho
              · simp [RowKit.intOf]; omega
    · have hdec : decide ((pre.length : Int) < (t : Int) + (g : Int) + (f : Int)) = false := decide_eq_false (by omega)
      obtain rfl : t' = 0 := by omega
      obtain rfl : g' = 0 := by omega
      obtain rfl : f' = 0 := by omega
      have hcv := own_string (P := Tryd.prog) Tryd.underlying73 Tryd.underlying5 Tryd.underlying9 (Kd.own_of_R hO)
      have hp : Hid (pre = unrank (t + g + f) t g f r) := Lib.hid (by rw [← hu]; exact (List.append_nil _).symm)
      clear hu hn hr hb hO
      go_wp2
      go_ret2
      rw [← hp.out]
      exact ⟨by rw [show strOfNums (ints8 pre) = ⟨pre.toArray⟩ from Go.Proofs.YtgiphajcffambaaDoorXW.nums_str pre]; rfl, hB⟩
theorem within_b (a b c : Int) : impl_within.f a b c = some (decide (b ≤ a ∧ a ≤ c)) := by
  unfold impl_within.f
  by_cases h : b ≤ a <;> simp [h]
theorem areCounts_true {a b c : Int} (h : impl_areCounts.f a b c 12 = some true) : (0 ≤ a ∧ a ≤ 12) ∧ (0 ≤ b ∧ b ≤ 12) ∧ (0 ≤ c ∧ c ≤ 12) ∧ 1 ≤ a + b + c ∧ a + b + c ≤ 12 := by
  unfold impl_areCounts.f at h
  rw [within_b, within_b, within_b, within_b] at h
  simp only [Option.bind_some] at h
  by_cases h1 : 0 ≤ a ∧ a ≤ 12
  case neg => rw [decide_eq_false h1, if_neg (by decide)] at h; cases h
  by_cases h2 : 0 ≤ b ∧ b ≤ 12
  case neg => rw [decide_eq_true h1, decide_eq_false h2, if_pos rfl, if_neg (by decide)] at h; cases h
  by_cases h3 : 0 ≤ c ∧ c ≤ 12
  case neg => rw [decide_eq_true h1, decide_eq_true h2, decide_eq_false h3, if_pos rfl, if_pos rfl, if_neg (by decide)] at h; cases h
  rw [decide_eq_true h1, decide_eq_true h2, decide_eq_true h3, if_pos rfl, if_pos rfl, if_pos rfl, Option.some.injEq, decide_eq_true_eq] at h
  have hw : wrap64 (wrap64 (a + b) + c) = a + b + c := by unfold wrap64; omega
  rw [hw] at h
  exact ⟨h1, h2, h3, h⟩
set_option maxHeartbeats 4000000 in
set_option maxRecDepth 1000000 in
theorem impl_LineOfRank.none_ (a0 a1 a2 a3 : Int) (w : World) (hA : impl_areCounts.f a0 a1 a2 12 = some false) :
    Calls Tryd.prog 29 #[.int .i64 a0, .int .i64 a1, .int .i64 a2, .int .i64 a3] w fun e w' => e = .returned (.tuple #[.string ⟨#[]⟩, .bool false]) ∧ Below w.heap.size w w' := by
  go_enter Tryd.func29, Tryd.ntmps29
  go_wp2_with (first
    | (go_at_call 64; refine (impl_areCounts.calls a0 a1 a2 12 false _ hA).mono ?_; rintro e w' ⟨rfl, ⟨nd, rfl⟩⟩))
  go_ret2
  exact ⟨rfl, pw_below_drewN (Below.refl _ _) _⟩
set_option maxHeartbeats 4000000 in
set_option maxRecDepth 1000000 in
theorem impl_LineOfRank.out_ (a0 a1 a2 a3 m : Int) (w : World) (hA : impl_areCounts.f a0 a1 a2 12 = some true) (hl : impl_lines.f 100 a0 a1 a2 = some m) (m0 : 0 ≤ m) (m1 : m < 1000000) (hw : impl_within.f a3 0 (m - 1) = some false) :
    Calls Tryd.prog 29 #[.int .i64 a0, .int .i64 a1, .int .i64 a2, .int .i64 a3] w fun e w' => e = .returned (.tuple #[.string ⟨#[]⟩, .bool false]) ∧ Below w.heap.size w w' := by
  go_enter Tryd.func29, Tryd.ntmps29
  go_wp2_with (first
    | (go_at_call 64; refine (impl_areCounts.calls a0 a1 a2 12 true _ hA).mono ?_; rintro e w' ⟨rfl, ⟨nd, rfl⟩⟩)
    | (go_at_call 65; refine (impl_lines.calls 100 a0 a1 a2 m _ hl).mono ?_; rintro e w' ⟨rfl, ⟨nd2, rfl⟩⟩)
    | (go_at_call 66; refine (impl_within.calls a3 0 (m - 1) false _ hw).mono ?_; rintro e w' ⟨rfl, ⟨nd3, rfl⟩⟩))
  go_ret2
  exact ⟨rfl, pw_below_drewN (Below.refl _ _) _⟩
end
/-- the line with a rank, if there is one -/
def impl_LineOfRank.f (a0 a1 a2 : Int) (a3 : Int) : Option (ByteArray × Bool) := (impl_areCounts.f a0 a1 a2 12).bind fun b => if b = true then ((impl_lines.f 100 a0 a1 a2).bind fun m => ((impl_within.f a3 0 (m - 1)).bind fun c => if c = true then (some ((⟨(Go.Proofs.YtgiphajcffambaaDoor.Ranks.unrank (a0.toNat + a1.toNat + a2.toNat) a0.toNat a1.toNat a2.toNat a3.toNat).toArray⟩ : ByteArray), true)) else (some ((⟨#[]⟩ : ByteArray), false)))) else (some ((⟨#[]⟩ : ByteArray), false))
theorem impl_LineOfRank.calls (a0 a1 a2 a3 : Int) (r1 : ByteArray) (r2 : Bool) (w : World) (h : impl_LineOfRank.f a0 a1 a2 a3 = some (r1, r2)) :
    Calls Tryd.prog 29 #[.int .i64 a0, .int .i64 a1, .int .i64 a2, .int .i64 a3] w fun e w' => e = .returned (.tuple #[.string r1, .bool r2]) ∧ Below w.heap.size w w' := by
  unfold impl_LineOfRank.f at h
  obtain ⟨b, hb, h⟩ := Option.bind_eq_some_iff.mp h
  cases b with
  | false =>
    rw [if_neg (by decide)] at h
    cases h
    exact impl_LineOfRank.none_ a0 a1 a2 a3 w hb
  | true =>
    rw [if_pos rfl] at h
    obtain ⟨⟨h0, _⟩, ⟨h1, _⟩, ⟨h2, _⟩, _, h3⟩ := areCounts_true hb
    obtain ⟨t, rfl⟩ := Int.eq_ofNat_of_zero_le h0
    obtain ⟨g, rfl⟩ := Int.eq_ofNat_of_zero_le h1
    obtain ⟨f, rfl⟩ := Int.eq_ofNat_of_zero_le h2
    have hl := lines_eq t g f (by omega)
    have hm := Go.Proofs.YtgiphajcffambaaDoor.Ranks.M_small (t := t) (g := g) (f := f) (by omega)
    rw [hl] at h
    simp only [Option.bind_some] at h
    obtain ⟨c, hc, h⟩ := Option.bind_eq_some_iff.mp h
    cases c with
    | false =>
      rw [if_neg (by decide)] at h
      cases h
      exact impl_LineOfRank.out_ _ _ _ a3 _ w hb hl (by omega) (by omega) hc
    | true =>
      rw [if_pos rfl] at h
      cases h
      rw [within_b, Option.some.injEq, decide_eq_true_eq] at hc
      obtain ⟨r, rfl⟩ := Int.eq_ofNat_of_zero_le hc.1
      simp only [Int.toNat_natCast]
      exact impl_LineOfRank.walk t g f r (by omega) (by omega) w hb


/-! ### impl_way: function 67 -/
def impl_way.l0 : Nat → ByteArray → Int → Int → Int → Int → Int → Option (Int)
  | 0, _, _, _, _, _, _ => none
  | k + 1, x0, x6, x7, x8, x21, x22 => if x22 < x21 then (if 0 ≤ x22 then (if x22 < (x0.size : Int) then (if (bt x0 x22) = 84 then (impl_way.l0 k x0 (wrap64 (x6 + (wrap64 (x7 - x22)))) (wrap64 (x7 + 1)) x8 x21 (wrap64 (x22 + 1))) else (if (bt x0 x22) = 70 then (impl_way.l0 k x0 (wrap64 (x6 + (wrap64 (x22 - x8)))) x7 (wrap64 (x8 + 1)) x21 (wrap64 (x22 + 1))) else (impl_way.l0 k x0 x6 x7 x8 x21 (wrap64 (x22 + 1))))) else (none)) else (none)) else (some x6)
def impl_way.f (k : Nat) (a0 : ByteArray) : Option (Int) := (impl_count.f a0).bind fun bt171 => (impl_way.l0 k a0 0 (wrap64 ((a0.size : Int) - bt171.1)) 0 (a0.size : Int) 0)
theorem impl_way.mono_l : ∀ k, (∀ y0 y1 y2 y3 y4 y5, LeO (impl_way.l0 k y0 y1 y2 y3 y4 y5) (impl_way.l0 (k + 1) y0 y1 y2 y3 y4 y5))
  | 0 => fun _ _ _ _ _ _ r h => by simp [impl_way.l0] at h
  | k + 1 => by
    have ih0 := impl_way.mono_l k
    · intro y0 y1 y2 y3 y4 y5
      unfold impl_way.l0
      repeat' first
      | (with_reducible exact ih0 _ _ _ _ _ _)
      | (with_reducible exact LeO.refl _)
      | (with_reducible exact LeO.none _)
      | (with_reducible refine LeO.ite ?_ ?_)
      | (with_reducible refine LeO.bind ?_ (fun _ => ?_))
      | exact ih0 _ _ _ _ _ _
      | exact LeO.none _
      | refine LeO.ite ?_ ?_
      | refine LeO.bind ?_ (fun _ => ?_)
theorem impl_way.mono : ∀ a0 k, LeO (impl_way.f k a0) (impl_way.f (k + 1) a0) := by
  intro a0 k
  have ih0 := impl_way.mono_l k
  unfold impl_way.f
  repeat' first
      | (with_reducible exact ih0 _ _ _ _ _ _)
      | (with_reducible exact LeO.refl _)
      | (with_reducible exact LeO.none _)
      | (with_reducible refine LeO.ite ?_ ?_)
      | (with_reducible refine LeO.bind ?_ (fun _ => ?_))
      | exact ih0 _ _ _ _ _ _
      | exact LeO.none _
      | refine LeO.ite ?_ ?_
      | refine LeO.bind ?_ (fun _ => ?_)
set_option maxHeartbeats 8000000 in
set_option maxRecDepth 100000 in
theorem impl_way.calls (k : Nat) (a0 : ByteArray) (r : Int) (w : World) (h : impl_way.f k a0 = some r) :
    Calls Tryd.prog 67 #[.string a0] w fun e w' => e = .returned (.int .i64 r) ∧ Drawn0 w w' := by
  have H : ((impl_count.f a0).bind fun bt171 => (impl_way.l0 k a0 0 (wrap64 ((a0.size : Int) - bt171.1)) 0 (a0.size : Int) 0)) = some r := h
  clear h
  replace H := Option.bind_eq_some_iff.mp H
  obtain ⟨⟨t171, t172, t173⟩, A20, H⟩ := H
  replace H : (impl_way.l0 k a0 0 (wrap64 ((a0.size : Int) - t171)) 0 (a0.size : Int) 0) = some r := H
  have A2 := Aside0.mk A20
  clear A20
  have H' := Aside0.mk H
  clear H
  go_enter Tryd.func67, Tryd.ntmps67
  go_wp2_with (first | ((with_reducible refine gate_callee (f := 56) rfl ?_); refine goesL_ (some 12) rfl rfl Tryd.func56 (by kernel_rfl) rfl #[.string a0] rfl (by (try simp only [List.map_toArray, List.map_cons, List.map_nil]); first | done | rfl | (simp only [List.length_drop, List.length_take]; rfl)) ?_; (with_reducible refine (impl_count.calls a0 t171 t172 t173 _ A2.out).mono ?_); rintro e w' ⟨rfl, ⟨nd, rfl⟩⟩; refine ⟨_, rfl, ?_⟩))
  go_loopg [6, 7, 8, 22] k (fun kq v6 v7 v8 v22 w' => ∃ (x6_1 : Int) (x7_1 : Int) (x8_1 : Int) (x22_1 : Int), v6 = .int .i64 x6_1 ∧ v7 = .int .i64 x7_1 ∧ v8 = .int .i64 x8_1 ∧ v22 = .int .i64 x22_1 ∧ Aside0 (impl_way.l0 kq a0 x6_1 x7_1 x8_1 (a0.size : Int) x22_1 = some r) ∧ Aside0 (kq ≤ k) ∧ Drawn0 w w')
  case atStart => exact ⟨(0), (wrap64 ((a0.size : Int) - t171)), (0), (0), (by first | rfl | (simp; done) | (simp [*]; done)), (by first | rfl | (simp; done) | (simp [*]; done)), (by first | rfl | (simp; done) | (simp [*]; done)), (by first | rfl | (simp; done) | (simp [*]; done)), H', ⟨Nat.le_refl _⟩, by repeat (first | exact Drawn0.refl _ | apply Drawn0.step)⟩
  case round =>
    clear H'
    try clear p2
    obtain ⟨x6_1, x7_1, x8_1, x22_1, rfl, rfl, rfl, rfl, HA, HK1, ⟨m1, rfl⟩⟩ := hrel
    cases gk with
    | zero => exact absurd HA.out (by simp [impl_way.l0])
    | succ k1 =>
      have H := HA.out
      clear HA
      simp only [impl_way.l0] at H
      by_cases c3 : x22_1 < (a0.size : Int)
      · rw [if_pos c3] at H
        have c3b0 : decide (x22_1 < (a0.size : Int)) = true := decide_eq_true c3
        clear c3
        by_cases c4 : 0 ≤ x22_1
        · rw [if_pos c4] at H
          have c4b0 : decide (0 ≤ x22_1) = true := decide_eq_true c4
          clear c4
          by_cases c5 : x22_1 < (a0.size : Int)
          · rw [if_pos c5] at H
            have c5b0 : decide (x22_1 < (a0.size : Int)) = true := decide_eq_true c5
            clear c5
            by_cases c7 : (bt a0 x22_1) = 84
            · rw [if_pos c7] at H
              have c7b0 : ((bt a0 x22_1) == 84) = true := beq_iff_eq.mpr c7
              have c7b1 : ((bt a0 x22_1) != 84) = false := bne_eq_false_iff_eq.mpr c7
              clear c7
              have H' := Aside0.mk H
              clear H
              have p6 : 0 ≤ (x22_1 : Int) := of_decide_eq_true (by first | (with_reducible assumption) | assumption)
              have q6 : x22_1 < (a0.size : Int) := of_decide_eq_true (by first | (with_reducible assumption) | assumption)
              have hx6 := bt_at a0 x22_1
              replace p6 := eq_true p6
              replace q6 := eq_true q6
              go_wp2
              go_roundg k1
              case measure => have := HK1.out; omega
              case rel => exact ⟨(wrap64 (x6_1 + (wrap64 (x7_1 - x22_1)))), (wrap64 (x7_1 + 1)), (x8_1), (wrap64 (x22_1 + 1)), (by first | rfl | (simp; done) | (simp [*]; done)), (by first | rfl | (simp; done) | (simp [*]; done)), (by first | rfl | (simp; done) | (simp [*]; done)), (by first | rfl | (simp; done) | (simp [*]; done)), H', ⟨by have := HK1.out; omega⟩, by repeat (first | exact Drawn0.refl _ | apply Drawn0.step)⟩
            · rw [if_neg c7] at H
              have c7b0 : ((bt a0 x22_1) == 84) = false := beq_eq_false_iff_ne.mpr c7
              have c7b1 : ((bt a0 x22_1) != 84) = true := bne_iff_ne.mpr c7
              by_cases c8 : (bt a0 x22_1) = 70
              · rw [if_pos c8] at H
                have c8b0 : ((bt a0 x22_1) == 70) = true := beq_iff_eq.mpr c8
                have c8b1 : ((bt a0 x22_1) != 70) = false := bne_eq_false_iff_eq.mpr c8
                clear c8
                have H' := Aside0.mk H
                clear H
                have p6 : 0 ≤ (x22_1 : Int) := of_decide_eq_true (by first | (with_reducible assumption) | assumption)
                have q6 : x22_1 < (a0.size : Int) := of_decide_eq_true (by first | (with_reducible assumption) | assumption)
                have hx6 := bt_at a0 x22_1
                replace p6 := eq_true p6
                replace q6 := eq_true q6
                go_wp2
                go_roundg k1
                case measure => have := HK1.out; omega
                case rel => exact ⟨(wrap64 (x6_1 + (wrap64 (x22_1 - x8_1)))), (x7_1), (wrap64 (x8_1 + 1)), (wrap64 (x22_1 + 1)), (by first | rfl | (simp; done) | (simp [*]; done)), (by first | rfl | (simp; done) | (simp [*]; done)), (by first | rfl | (simp; done) | (simp [*]; done)), (by first | rfl | (simp; done) | (simp [*]; done)), H', ⟨by have := HK1.out; omega⟩, by repeat (first | exact Drawn0.refl _ | apply Drawn0.step)⟩
              · rw [if_neg c8] at H
                have c8b0 : ((bt a0 x22_1) == 70) = false := beq_eq_false_iff_ne.mpr c8
                have c8b1 : ((bt a0 x22_1) != 70) = true := bne_iff_ne.mpr c8
                have H' := Aside0.mk H
                clear H
                have p6 : 0 ≤ (x22_1 : Int) := of_decide_eq_true (by first | (with_reducible assumption) | assumption)
                have q6 : x22_1 < (a0.size : Int) := of_decide_eq_true (by first | (with_reducible assumption) | assumption)
                have hx6 := bt_at a0 x22_1
                replace p6 := eq_true p6
                replace q6 := eq_true q6
                go_wp2
                go_roundg k1
                case measure => have := HK1.out; omega
                case rel => exact ⟨(x6_1), (x7_1), (x8_1), (wrap64 (x22_1 + 1)), (by first | rfl | (simp; done) | (simp [*]; done)), (by first | rfl | (simp; done) | (simp [*]; done)), (by first | rfl | (simp; done) | (simp [*]; done)), (by first | rfl | (simp; done) | (simp [*]; done)), H', ⟨by have := HK1.out; omega⟩, by repeat (first | exact Drawn0.refl _ | apply Drawn0.step)⟩
          · rw [if_neg c5] at H
            exact absurd H (by simp)
        · rw [if_neg c4] at H
          exact absurd H (by simp)
      · rw [if_neg c3] at H
        have c3b0 : decide (x22_1 < (a0.size : Int)) = false := decide_eq_false c3
        clear c3
        obtain rfl := Option.some.inj H
        go_wp2
        go_ret
        exact ⟨by first | rfl | (simp; done) | (simp [*]; done), by repeat (first | exact Drawn0.refl _ | apply Drawn0.step)⟩

/-! ### impl_WayToGo: function 30 -/
def impl_WayToGo.f (k : Nat) (a0 : ByteArray) : Option (Int × Bool) := (impl_IsLine.f a0).bind fun t174 => (if t174 = true then ((impl_way.f k a0).bind fun t175 => (some (t175, true))) else (some (0, false)))
theorem impl_WayToGo.mono : ∀ a0 k, LeO (impl_WayToGo.f k a0) (impl_WayToGo.f (k + 1) a0) := by
  intro a0 k
  unfold impl_WayToGo.f
  repeat' first
      | (with_reducible exact impl_way.mono _ _)
      | (with_reducible exact LeO.refl _)
      | (with_reducible exact LeO.none _)
      | (with_reducible refine LeO.ite ?_ ?_)
      | (with_reducible refine LeO.bind ?_ (fun _ => ?_))
      | exact impl_way.mono _ _
      | exact LeO.none _
      | refine LeO.ite ?_ ?_
      | refine LeO.bind ?_ (fun _ => ?_)
set_option maxHeartbeats 8000000 in
set_option maxRecDepth 100000 in
theorem impl_WayToGo.calls (k : Nat) (a0 : ByteArray) (r1 : Int) (r2 : Bool) (w : World) (h : impl_WayToGo.f k a0 = some (r1, r2)) :
    Calls Tryd.prog 30 #[.string a0] w fun e w' => e = .returned (.tuple #[.int .i64 r1, .bool r2]) ∧ Below w.heap.size w w' := by
  have HB := Aside0.mk (Below.refl w.heap.size w)
  have H : ((impl_IsLine.f a0).bind fun t174 => (if t174 = true then ((impl_way.f k a0).bind fun t175 => (some (t175, true))) else (some (0, false)))) = some (r1, r2) := h
  clear h
  replace H := Option.bind_eq_some_iff.mp H
  obtain ⟨t174, A20, H⟩ := H
  replace H : (if t174 = true then ((impl_way.f k a0).bind fun t175 => (some (t175, true))) else (some (0, false))) = some (r1, r2) := H
  have A2 := Aside0.mk A20
  clear A20
  by_cases c3 : t174 = true
  · subst c3
    have H1 : ((impl_way.f k a0).bind fun t175 => (some (t175, true))) = some (r1, r2) := by rw [if_pos rfl] at H; exact H
    clear H
    have H := H1
    clear H1
    replace H := Option.bind_eq_some_iff.mp H
    obtain ⟨t175, A40, H⟩ := H
    replace H : (some (t175, true)) = some (r1, r2) := H
    have A4 := Aside0.mk A40
    clear A40
    simp only [Option.some.injEq, Prod.mk.injEq] at H
    obtain ⟨rfl, rfl⟩ := H
    go_enter Tryd.func30, Tryd.ntmps30
    go_wp2_with (first | ((with_reducible refine gate_callee (f := 48) rfl ?_); refine goesL_ (some 5) rfl rfl Tryd.func48 (by kernel_rfl) rfl #[.string a0] rfl (by (try simp only [List.map_toArray, List.map_cons, List.map_nil]); first | done | rfl | (simp only [List.length_drop, List.length_take]; rfl)) ?_; (with_reducible refine (impl_IsLine.calls a0 true _ A2.out).mono ?_); rintro e w5 ⟨rfl, hb⟩; refine ⟨_, rfl, ?_⟩; have n0_ := Aside0.mk (below_step (by repeat (first | (with_reducible first | exact HB.out | apply below_alloc | apply pw_below_drewN | apply below_drew1) | exact HB.out)) hb); clear HB; have HB := n0_; clear n0_; (try clear hb); (try clear hb2); (try clear hk); (try clear hi)) | ((with_reducible refine gate_callee (f := 67) rfl ?_); refine goesL_ (some 8) rfl rfl Tryd.func67 (by kernel_rfl) rfl #[.string a0] rfl (by (try simp only [List.map_toArray, List.map_cons, List.map_nil]); first | done | rfl | (simp only [List.length_drop, List.length_take]; rfl)) ?_; (with_reducible refine (impl_way.calls k a0 t175 _ A4.out).mono ?_); rintro e w' ⟨rfl, ⟨nd, rfl⟩⟩; refine ⟨_, rfl, ?_⟩))
    go_ret2
    exact ⟨by first | rfl | (simp [errW_none, errW_some] <;> rfl) | (simp [*, errW_none, errW_some] <;> rfl), by repeat (first | (with_reducible first | exact HB.out | apply below_alloc | apply pw_below_drewN | apply below_drew1) | exact HB.out)⟩
  · replace c3 := Bool.eq_false_iff.mpr c3
    subst c3
    have H1 : (some (0, false)) = some (r1, r2) := by rw [if_neg (show ¬ (false = true) by decide)] at H; exact H
    clear H
    have H := H1
    clear H1
    simp only [Option.some.injEq, Prod.mk.injEq] at H
    obtain ⟨rfl, rfl⟩ := H
    go_enter Tryd.func30, Tryd.ntmps30
    go_wp2_with (first | ((with_reducible refine gate_callee (f := 48) rfl ?_); refine goesL_ (some 5) rfl rfl Tryd.func48 (by kernel_rfl) rfl #[.string a0] rfl (by (try simp only [List.map_toArray, List.map_cons, List.map_nil]); first | done | rfl | (simp only [List.length_drop, List.length_take]; rfl)) ?_; (with_reducible refine (impl_IsLine.calls a0 false _ A2.out).mono ?_); rintro e w6 ⟨rfl, hb⟩; refine ⟨_, rfl, ?_⟩; have n0_ := Aside0.mk (below_step (by repeat (first | (with_reducible first | exact HB.out | apply below_alloc | apply pw_below_drewN | apply below_drew1) | exact HB.out)) hb); clear HB; have HB := n0_; clear n0_; (try clear hb); (try clear hb2); (try clear hk); (try clear hi)))
    go_ret2
    exact ⟨by first | rfl | (simp [errW_none, errW_some] <;> rfl) | (simp [*, errW_none, errW_some] <;> rfl), by repeat (first | (with_reducible first | exact HB.out | apply below_alloc | apply pw_below_drewN | apply below_drew1) | exact HB.out)⟩

/-! ### spec_l1All: function 86 -/
def spec_l1All.l0 : Nat → Int → Int → List Int → Int → Int → Option (Bool)
  | 0, _, _, _, _, _ => none
  | k + 1, x1, x2, x9, x10, x11 => if x11 < x10 then (if 0 ≤ x11 then (if x11 < (x9.length : Int) then ((spec_l1In.f (rd x9 x11) x1 x2).bind fun t177 => (if t177 = true then (spec_l1All.l0 k x1 x2 x9 x10 (wrap64 (x11 + 1))) else (some false))) else (none)) else (none)) else (some true)
def spec_l1All.f (k : Nat) (l0 : List Int) (a1 : Int) (a2 : Int) : Option (Bool) := spec_l1All.l0 k a1 a2 l0 (l0.length : Int) 0
theorem spec_l1All.mono_l : ∀ k, (∀ y0 y1 y2 y3 y4, LeO (spec_l1All.l0 k y0 y1 y2 y3 y4) (spec_l1All.l0 (k + 1) y0 y1 y2 y3 y4))
  | 0 => fun _ _ _ _ _ r h => by simp [spec_l1All.l0] at h
  | k + 1 => by
    have ih0 := spec_l1All.mono_l k
    · intro y0 y1 y2 y3 y4
      unfold spec_l1All.l0
      repeat' first
      | (with_reducible exact ih0 _ _ _ _ _)
      | (with_reducible exact LeO.refl _)
      | (with_reducible exact LeO.none _)
      | (with_reducible refine LeO.ite ?_ ?_)
      | (with_reducible refine LeO.bind ?_ (fun _ => ?_))
      | exact ih0 _ _ _ _ _
      | exact LeO.none _
      | refine LeO.ite ?_ ?_
      | refine LeO.bind ?_ (fun _ => ?_)
theorem spec_l1All.mono : ∀ a0 a1 a2 k, LeO (spec_l1All.f k a0 a1 a2) (spec_l1All.f (k + 1) a0 a1 a2) := by
  intro a0 a1 a2 k
  have ih0 := spec_l1All.mono_l k
  unfold spec_l1All.f
  repeat' first
      | (with_reducible exact ih0 _ _ _ _ _)
      | (with_reducible exact LeO.refl _)
      | (with_reducible exact LeO.none _)
      | (with_reducible refine LeO.ite ?_ ?_)
      | (with_reducible refine LeO.bind ?_ (fun _ => ?_))
      | exact ih0 _ _ _ _ _
      | exact LeO.none _
      | refine LeO.ite ?_ ?_
      | refine LeO.bind ?_ (fun _ => ?_)
set_option maxHeartbeats 8000000 in
set_option maxRecDepth 100000 in
theorem spec_l1All.calls (k : Nat) (A0 : Option Addr) (c0 : Nat) (l0 : List Int) (a1 : Int) (a2 : Int) (r : Bool) (w : World) (hr0 : Kd.C (Kd.int .i64) w A0 l0.length l0) (hc0 : l0.length ≤ c0) (h : spec_l1All.f k l0 a1 a2 = some r) :
    Calls Tryd.prog 86 #[.slice A0 l0.length c0, .int .i64 a1, .int .i64 a2] w fun e w' => e = .returned (.bool r) ∧ Drawn0 w w' := by
  have HR0 := Aside0.mk hr0
  have HC0 := Aside0.mk hc0
  clear hr0 hc0
  have H : (spec_l1All.l0 k a1 a2 l0 (l0.length : Int) 0) = some r := h
  clear h
  have H' := Aside0.mk H
  clear H
  go_enter Tryd.func86, Tryd.ntmps86
  go_wp2
  go_loopg [11] k (fun kq v11 w' => ∃ (x11_1 : Int), v11 = .int .i64 x11_1 ∧ Aside0 (spec_l1All.l0 kq a1 a2 l0 (l0.length : Int) x11_1 = some r) ∧ Aside0 (kq ≤ k) ∧ Drawn0 w w')
  case atStart => exact ⟨(0), (by first | rfl | (simp; done) | (simp [*]; done)), H', ⟨Nat.le_refl _⟩, by repeat (first | exact Drawn0.refl _ | apply Drawn0.step)⟩
  case round =>
    clear H'
    try clear p2
    obtain ⟨x11_1, rfl, HA, HK1, ⟨m1, rfl⟩⟩ := hrel
    cases gk with
    | zero => exact absurd HA.out (by simp [spec_l1All.l0])
    | succ k1 =>
      have H := HA.out
      clear HA
      simp only [spec_l1All.l0] at H
      by_cases c4 : x11_1 < (l0.length : Int)
      · rw [if_pos c4] at H
        have c4b0 : decide (x11_1 < (l0.length : Int)) = true := decide_eq_true c4
        clear c4
        by_cases c5 : 0 ≤ x11_1
        · rw [if_pos c5] at H
          have c5b0 : decide (0 ≤ x11_1) = true := decide_eq_true c5
          clear c5
          by_cases c6 : x11_1 < (l0.length : Int)
          · rw [if_pos c6] at H
            have c6b0 : decide (x11_1 < (l0.length : Int)) = true := decide_eq_true c6
            clear c6
            replace H := Option.bind_eq_some_iff.mp H
            obtain ⟨t177, A70, H⟩ := H
            replace H : (if t177 = true then (spec_l1All.l0 k1 a1 a2 l0 (l0.length : Int) (wrap64 (x11_1 + 1))) else (some false)) = some r := H
            have A7 := Aside0.mk A70
            clear A70
            by_cases c8 : t177 = true
            · subst c8
              have H1 : (spec_l1All.l0 k1 a1 a2 l0 (l0.length : Int) (wrap64 (x11_1 + 1))) = some r := by rw [if_pos rfl] at H; exact H
              clear H
              have H := H1
              clear H1
              have H' := Aside0.mk H
              clear H
              have p176 : 0 ≤ (x11_1 : Int) := of_decide_eq_true (by first | (with_reducible assumption) | assumption)
              have q176 : x11_1 < (l0.length : Int) := of_decide_eq_true (by first | (with_reducible assumption) | assumption)
              obtain ⟨ad176, e176, hx176_0⟩ := Kd.at_int HR0.out x11_1 p176 q176
              cases e176
              replace p176 := eq_true p176
              replace q176 := eq_true q176
              go_wp2_with (first | ((with_reducible refine gate_callee (f := 69) rfl ?_); refine goesL_ (some 18) rfl rfl Tryd.func69 (by kernel_rfl) rfl #[.int .i64 (rd l0 x11_1), .int .i64 a1, .int .i64 a2] rfl (by (try simp only [List.map_toArray, List.map_cons, List.map_nil]); first | done | rfl | (simp only [List.length_drop, List.length_take]; rfl)) ?_; (with_reducible refine (spec_l1In.calls (rd l0 x11_1) a1 a2 true _ A7.out).mono ?_); rintro e w' ⟨rfl, ⟨nd, rfl⟩⟩; refine ⟨_, rfl, ?_⟩))
              go_roundg k1
              case measure => have := HK1.out; omega
              case rel => exact ⟨(wrap64 (x11_1 + 1)), (by first | rfl | (simp; done) | (simp [*]; done)), H', ⟨by have := HK1.out; omega⟩, by repeat (first | exact Drawn0.refl _ | apply Drawn0.step)⟩
            · replace c8 := Bool.eq_false_iff.mpr c8
              subst c8
              have H1 : (some false) = some r := by rw [if_neg (show ¬ (false = true) by decide)] at H; exact H
              clear H
              have H := H1
              clear H1
              obtain rfl := Option.some.inj H
              have p176 : 0 ≤ (x11_1 : Int) := of_decide_eq_true (by first | (with_reducible assumption) | assumption)
              have q176 : x11_1 < (l0.length : Int) := of_decide_eq_true (by first | (with_reducible assumption) | assumption)
              obtain ⟨ad176, e176, hx176_0⟩ := Kd.at_int HR0.out x11_1 p176 q176
              cases e176
              replace p176 := eq_true p176
              replace q176 := eq_true q176
              go_wp2_with (first | ((with_reducible refine gate_callee (f := 69) rfl ?_); refine goesL_ (some 18) rfl rfl Tryd.func69 (by kernel_rfl) rfl #[.int .i64 (rd l0 x11_1), .int .i64 a1, .int .i64 a2] rfl (by (try simp only [List.map_toArray, List.map_cons, List.map_nil]); first | done | rfl | (simp only [List.length_drop, List.length_take]; rfl)) ?_; (with_reducible refine (spec_l1In.calls (rd l0 x11_1) a1 a2 false _ A7.out).mono ?_); rintro e w' ⟨rfl, ⟨nd, rfl⟩⟩; refine ⟨_, rfl, ?_⟩))
              go_ret
              exact ⟨by first | rfl | (simp; done) | (simp [*]; done), by repeat (first | exact Drawn0.refl _ | apply Drawn0.step)⟩
          · rw [if_neg c6] at H
            exact absurd H (by simp)
        · rw [if_neg c5] at H
          exact absurd H (by simp)
      · rw [if_neg c4] at H
        have c4b0 : decide (x11_1 < (l0.length : Int)) = false := decide_eq_false c4
        clear c4
        obtain rfl := Option.some.inj H
        go_wp2
        go_ret
        exact ⟨by first | rfl | (simp; done) | (simp [*]; done), by repeat (first | exact Drawn0.refl _ | apply Drawn0.step)⟩

/-! ### spec_liThree: function 68 -/
def spec_liThree.f (k : Nat) (a0 : Int) (a1 : Int) (a2 : Int) : Option (Bool) := (spec_l1All.f k (([a0, a1, a2] : List Int)) 0 12).bind fun t181 => (if t181 = true then ((spec_l1In.f (wrap64 ((wrap64 (a0 + a1)) + a2)) 1 12).bind fun t182 => (some t182)) else (some false))
theorem spec_liThree.mono : ∀ a0 a1 a2 k, LeO (spec_liThree.f k a0 a1 a2) (spec_liThree.f (k + 1) a0 a1 a2) := by
  intro a0 a1 a2 k
  unfold spec_liThree.f
  repeat' first
      | (with_reducible exact spec_l1All.mono _ _ _ _)
      | (with_reducible exact LeO.refl _)
      | (with_reducible exact LeO.none _)
      | (with_reducible refine LeO.ite ?_ ?_)
      | (with_reducible refine LeO.bind ?_ (fun _ => ?_))
      | exact spec_l1All.mono _ _ _ _
      | exact LeO.none _
      | refine LeO.ite ?_ ?_
      | refine LeO.bind ?_ (fun _ => ?_)
set_option maxHeartbeats 8000000 in
set_option maxRecDepth 100000 in
theorem spec_liThree.calls (k : Nat) (a0 : Int) (a1 : Int) (a2 : Int) (r : Bool) (w : World) (h : spec_liThree.f k a0 a1 a2 = some r) :
    Calls Tryd.prog 68 #[.int .i64 a0, .int .i64 a1, .int .i64 a2] w fun e w' => e = .returned (.bool r) ∧ Below w.heap.size w w' := by
  have HB := Aside0.mk (Below.refl w.heap.size w)
  have H : ((spec_l1All.f k (([a0, a1, a2] : List Int)) 0 12).bind fun t181 => (if t181 = true then ((spec_l1In.f (wrap64 ((wrap64 (a0 + a1)) + a2)) 1 12).bind fun t182 => (some t182)) else (some false))) = some r := h
  clear h
  obtain ⟨y178, hy178⟩ : ∃ y_ : List Int, y_ = (([a0, a1, a2] : List Int)) := ⟨_, rfl⟩
  replace H : ((spec_l1All.f k y178 0 12).bind fun t181 => (if t181 = true then ((spec_l1In.f (wrap64 ((wrap64 (a0 + a1)) + a2)) 1 12).bind fun t182 => (some t182)) else (some false))) = some r := by first | (rw [hy178]; with_reducible exact H) | (have H2_ := (Option.bind_some _ _).symm.trans H; rw [hy178]; with_reducible exact H2_) | (have H2_ := (Option.bind_some _ _).symm.trans H; with_reducible exact H2_) | with_reducible exact H | (rw [hy178]; exact H) | exact H
  have Ny178 := Aside0.mk hy178
  clear hy178
  replace H := Option.bind_eq_some_iff.mp H
  obtain ⟨t181, A40, H⟩ := H
  replace H : (if t181 = true then ((spec_l1In.f (wrap64 ((wrap64 (a0 + a1)) + a2)) 1 12).bind fun t182 => (some t182)) else (some false)) = some r := H
  have A4 := Aside0.mk A40
  clear A40
  by_cases c5 : t181 = true
  · subst c5
    have H1 : ((spec_l1In.f (wrap64 ((wrap64 (a0 + a1)) + a2)) 1 12).bind fun t182 => (some t182)) = some r := by rw [if_pos rfl] at H; exact H
    clear H
    have H := H1
    clear H1
    replace H := Option.bind_eq_some_iff.mp H
    obtain ⟨t182, A60, H⟩ := H
    replace H : (some t182) = some r := H
    have A6 := Aside0.mk A60
    clear A60
    obtain rfl := Option.some.inj H
    go_enter Tryd.func68, Tryd.ntmps68
    go_wp2_with (first | ((with_reducible refine gate_dst (N := 10) rfl ?_); refine Kd.R_lit (Kd.int .i64) _ 3 ?hg (N := 10) ?hd (xs := ([a0, a1, a2] : List Int)) (inner := [.int .i64 a0, .int .i64 a1, .int .i64 a2]) (ok := fun _ => True) (okp := fun _ => True) ?hr ?hp (fun _ hk => hk) trivial (Below.refl _ _) (Nat.le_refl _) (by simp) ?_; (case hd => rfl); (case hg => rfl); (case hr => first | (go_simp; done) | (go_simp; rfl)); (case hp => exact (Reps.one (show Kd.M (Kd.int .i64) _ _ _ a0 [.int .i64 a0] from rfl) (Reps.one (show Kd.M (Kd.int .i64) _ _ _ a1 [.int .i64 a1] from rfl) (Reps.one (show Kd.M (Kd.int .i64) _ _ _ a2 [.int .i64 a2] from rfl) (Reps.none _ _))))); intro v179 w7 ho8 hb hg_ hnew_; clear hg_ hnew_; (first | rw [← Ny178.out] at ho8 | (simp only [Int.reduceToNat] at ho8; rw [← Ny178.out] at ho8)); have n0_ := Aside0.mk (Kd.R_lower ho8 (below_size (by repeat (first | (with_reducible first | exact HB.out | apply below_alloc | apply pw_below_drewN | apply below_drew1) | exact HB.out)))); have n1_ := Aside0.mk (below_step (by repeat (first | (with_reducible first | exact HB.out | apply below_alloc | apply pw_below_drewN | apply below_drew1) | exact HB.out)) hb); clear HB; have HO180 := n0_; have HB := n1_; clear n0_ n1_; clear hb ho8; obtain ⟨Ao9, co9, eo9⟩ := Kd.R_slice HO180.out; subst eo9) | ((with_reducible refine gate_callee (f := 86) rfl ?_); refine goesL_ (some 11) rfl rfl Tryd.func86 (by kernel_rfl) rfl #[.slice Ao9 y178.length co9, .int .i64 0, .int .i64 12] rfl (by (try simp only [List.map_toArray, List.map_cons, List.map_nil]); first | done | rfl | (simp only [List.length_drop, List.length_take]; rfl)) ?_; (with_reducible refine (spec_l1All.calls k _ _ y178 0 12 true _ ?side1 ?side2 A4.out).mono ?_); (case side1 => repeat (first | exact (Kd.R_reads' HO180.out).2.2 | (with_reducible refine Kd.C_alloc ?_ _) | (with_reducible refine Kd.C_drewN ?_ _) | (with_reducible refine Kd.C_drew ?_))); (case side2 => exact (Kd.R_reads' HO180.out).2.1); rintro e w' ⟨rfl, ⟨nd, rfl⟩⟩; refine ⟨_, rfl, ?_⟩) | (go_at_call 69; (try refine Go.Proofs.YtgiphajcffambaaDoorXW.calls_args64 (by simp only [Go.Proofs.YtgiphajcffambaaDoorXW.wrapEq]; rfl) ?_); (with_reducible refine (spec_l1In.calls (wrap64 ((wrap64 (a0 + a1)) + a2)) 1 12 t182 _ A6.out).mono ?_); rintro e w' ⟨rfl, ⟨nd, rfl⟩⟩))
    go_ret
    exact ⟨by first | rfl | (simp [errW_none, errW_some] <;> rfl) | (simp [*, errW_none, errW_some] <;> rfl), by repeat (first | (with_reducible first | exact HB.out | apply below_alloc | apply pw_below_drewN | apply below_drew1) | exact HB.out)⟩
  · replace c5 := Bool.eq_false_iff.mpr c5
    subst c5
    have H1 : (some false) = some r := by rw [if_neg (show ¬ (false = true) by decide)] at H; exact H
    clear H
    have H := H1
    clear H1
    obtain rfl := Option.some.inj H
    go_enter Tryd.func68, Tryd.ntmps68
    go_wp2_with (first | ((with_reducible refine gate_dst (N := 10) rfl ?_); refine Kd.R_lit (Kd.int .i64) _ 3 ?hg (N := 10) ?hd (xs := ([a0, a1, a2] : List Int)) (inner := [.int .i64 a0, .int .i64 a1, .int .i64 a2]) (ok := fun _ => True) (okp := fun _ => True) ?hr ?hp (fun _ hk => hk) trivial (Below.refl _ _) (Nat.le_refl _) (by simp) ?_; (case hd => rfl); (case hg => rfl); (case hr => first | (go_simp; done) | (go_simp; rfl)); (case hp => exact (Reps.one (show Kd.M (Kd.int .i64) _ _ _ a0 [.int .i64 a0] from rfl) (Reps.one (show Kd.M (Kd.int .i64) _ _ _ a1 [.int .i64 a1] from rfl) (Reps.one (show Kd.M (Kd.int .i64) _ _ _ a2 [.int .i64 a2] from rfl) (Reps.none _ _))))); intro v179 w10 ho11 hb hg_ hnew_; clear hg_ hnew_; (first | rw [← Ny178.out] at ho11 | (simp only [Int.reduceToNat] at ho11; rw [← Ny178.out] at ho11)); have n0_ := Aside0.mk (Kd.R_lower ho11 (below_size (by repeat (first | (with_reducible first | exact HB.out | apply below_alloc | apply pw_below_drewN | apply below_drew1) | exact HB.out)))); have n1_ := Aside0.mk (below_step (by repeat (first | (with_reducible first | exact HB.out | apply below_alloc | apply pw_below_drewN | apply below_drew1) | exact HB.out)) hb); clear HB; have HO180 := n0_; have HB := n1_; clear n0_ n1_; clear hb ho11; obtain ⟨Ao12, co12, eo12⟩ := Kd.R_slice HO180.out; subst eo12) | ((with_reducible refine gate_callee (f := 86) rfl ?_); refine goesL_ (some 11) rfl rfl Tryd.func86 (by kernel_rfl) rfl #[.slice Ao12 y178.length co12, .int .i64 0, .int .i64 12] rfl (by (try simp only [List.map_toArray, List.map_cons, List.map_nil]); first | done | rfl | (simp only [List.length_drop, List.length_take]; rfl)) ?_; (with_reducible refine (spec_l1All.calls k _ _ y178 0 12 false _ ?side1 ?side2 A4.out).mono ?_); (case side1 => repeat (first | exact (Kd.R_reads' HO180.out).2.2 | (with_reducible refine Kd.C_alloc ?_ _) | (with_reducible refine Kd.C_drewN ?_ _) | (with_reducible refine Kd.C_drew ?_))); (case side2 => exact (Kd.R_reads' HO180.out).2.1); rintro e w' ⟨rfl, ⟨nd, rfl⟩⟩; refine ⟨_, rfl, ?_⟩))
    go_ret
    exact ⟨by first | rfl | (simp [errW_none, errW_some] <;> rfl) | (simp [*, errW_none, errW_some] <;> rfl), by repeat (first | (with_reducible first | exact HB.out | apply below_alloc | apply pw_below_drewN | apply below_drew1) | exact HB.out)⟩

end Go.Proofs.YtgiphajcffambaaDoor.XA
