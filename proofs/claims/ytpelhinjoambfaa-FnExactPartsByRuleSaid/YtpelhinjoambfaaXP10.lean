/- The Lean functions that the Go functions of this seat compute, each with the proof that the Go function computes it, for every input (laws: FnExactPartsByRule). Conditions: none beyond those that each theorem names. Written by a program of this session over the kit's printer. -/
import Derived.Test.YtpelhinjoambfaaXP0
import Derived.Test.YtpelhinjoambfaaXP1
import Derived.Test.YtpelhinjoambfaaXP2
import Derived.Test.YtpelhinjoambfaaXP4
import Derived.Test.YtpelhinjoambfaaXP6
import Derived.Test.YtpelhinjoambfaaXP8
import Derived.Test.YtpelhinjoambfaaXP9
namespace Go.Proofs.Ytpelhinjoambfaa.XP
open Go.RowKit Go.Proofs.YtpelhinjoambfaaW.PrintWords Go.Proofs.YtpelhinjoambfaaW.PrintLast Go.Proofs.YtpelhinjoambfaaW.PrintMore
attribute [local go_sem] max2_int min2_int max_two min_two max_three min_three max_four min_four   -- for this text's walks alone
attribute [local go_sem] Lib.run_min_strs Go.Proofs.YtpelhinjoambfaaXW.run_min2_strs Go.Proofs.YtpelhinjoambfaaXW.run_int_string
set_option linter.unusedVariables false
set_option linter.unusedSimpArgs false

/-! ### spec_PartsByRule: function 22 (given) -/
section
open Go Go.RowKit Go.Lib Go.Proofs.YtpelhinjoambfaaW.PrintWords Go.Proofs.YtpelhinjoambfaaW.PrintLast
-- uses spec_ruThree.calls spec_ruLines.calls spec_ruMoves.calls spec_liMake.calls spec_RankOfLine.calls spec_l1Least.calls spec_l1Most.calls
/-- the number of a made line, by the reference -/
def rkS (x : ByteArray) (m : S58) : Option Int := (spec_liMake.f x m.f0 m.f1).bind fun y => (spec_RankOfLine.f 2000 y).bind fun q => some q.1
theorem least_min (a b : Int) : spec_l1Least.f a b = some (min a b) := by
  unfold spec_l1Least.f
  split
  · rw [Int.min_eq_left (by omega)]
  · rw [Int.min_eq_right (by omega)]
theorem most_max (a b : Int) : spec_l1Most.f a b = some (max a b) := by
  unfold spec_l1Most.f
  split
  · rw [Int.max_eq_left (by omega)]
  · rw [Int.max_eq_right (by omega)]
abbrev TP_ : Nat → Prop := fun _ => True
theorem pr_form {α : Type} {d : Kd α} {e base : Nat} {ok : Nat → Prop} {w : World} {v : Value} {xs : List α} (h : d.R e w base ok v xs) (hn : 0 < xs.length) : ∃ g cap, v = .slice (some ⟨g, 0, none⟩) xs.length cap := by
  obtain ⟨g, cap, h1, _⟩ := Kd.R_form h hn
  exact ⟨g, cap, h1⟩
theorem pr_icell {e base g n cap : Nat} {ok : Nat → Prop} {w : World} {xs : List Int} (h : (Kd.int .i64).R e w base ok (.slice (some ⟨g, 0, none⟩) n cap) xs) (i : Nat) (hi : i < n) : w.cell? ⟨g, i, none⟩ = some (.int .i64 (xs.getD i 0)) ∧ w.frozen? ⟨g, i, none⟩ = false := by
  have h := Kd.R_celln (enc := Value.int .i64) (h1 := fun _ => rfl) 0 h (i : Int) (by omega) (by omega)
  rw [Int.toNat_natCast] at h
  exact h
theorem pr_scell {e base g n cap : Nat} {ok : Nat → Prop} {w : World} {xs : List ByteArray} (h : Kd.string.R e w base ok (.slice (some ⟨g, 0, none⟩) n cap) xs) (i : Nat) (hi : i < n) : w.cell? ⟨g, i, none⟩ = some (.string (xs.getD i ByteArray.empty)) := by
  have h := (Kd.R_celln (enc := Value.string) (h1 := fun _ => rfl) ByteArray.empty h (i : Int) (by omega) (by omega)).1
  rw [Int.toNat_natCast] at h
  exact h
theorem pr_put {e base g n cap : Nat} {ok : Nat → Prop} {w : World} {xs : List Int} (h : (Kd.int .i64).R e w base ok (.slice (some ⟨g, 0, none⟩) n cap) xs) (i : Nat) (x : Int) : (Kd.int .i64).R e (w.setCell ⟨g, i, none⟩ (.int .i64 x)) base ok (.slice (some ⟨g, 0, none⟩) n cap) (xs.set i x) := by
  have h := Kd.R_putn (enc := Value.int .i64) (h1 := fun _ => rfl) h (i : Int) x
  rw [Int.toNat_natCast] at h
  exact h
set_option maxHeartbeats 4000000 in
set_option maxRecDepth 1000000 in
theorem spec_PartsByRule.no_ (o b l : Bool) (a0 a1 a2 : Int) (w : World) (h : spec_ruThree.f 1000 a0 a1 a2 = some false) :
    Calls Try.prog 22 #[.int .i64 a0, .int .i64 a1, .int .i64 a2, .agg #[.bool o, .bool b, .bool l]] w fun e w' => e = .returned (.tuple #[.int .i64 0, .bool false]) ∧ Below w.heap.size w w' := by
  go_enter Try.func22, Try.ntmps22
  go_wp2_with (first
    | (go_at_call 37; refine (spec_ruThree.calls 1000 a0 a1 a2 false _ h).mono ?_; rintro e w1 ⟨rfl, hx⟩; have hb1 := below_step (below_alloc (Below.refl _ _) _) hx))
  go_ret2
  exact ⟨rfl, hb1⟩
set_option maxHeartbeats 4000000 in
set_option maxRecDepth 1000000 in
theorem spec_PartsByRule.walk (o b l : Bool) (a0 a1 a2 : Int) (N : List ByteArray) (P9 : List Int) (w : World) (h : spec_ruThree.f 1000 a0 a1 a2 = some true) (hN : spec_ruLines.f 2000000 a0 a1 a2 = some N) (hN0 : 0 < N.length) (hN1 : N.length ≤ 1000000)
    (hP : Uf.outP (fun s => spec_ruMoves.f 3000 s o b l) rkS 0 N (Uf.iota N.length) = some P9) :
    Calls Try.prog 22 #[.int .i64 a0, .int .i64 a1, .int .i64 a2, .agg #[.bool o, .bool b, .bool l]] w fun e w' => e = .returned (.tuple #[.int .i64 ((Uf.fixes N.length P9 : Nat) : Int), .bool true]) ∧ Below w.heap.size w w' := by
  have HP := Lib.hid hP
  clear hP
  go_enter Try.func22, Try.ntmps22
  go_wp2_with (first
    | (go_at_call 37; refine (spec_ruThree.calls 1000 a0 a1 a2 true _ h).mono ?_; rintro e w1 ⟨rfl, hx⟩; have hb1 := below_step (below_alloc (Below.refl _ _) _) hx; have hrx := blk_below (blk_new w (.cells #[.bool o, .bool b, .bool l] 31 (0, 0))) hx; clear hx)
    | (go_at_call 38; refine (spec_ruLines.calls 2000000 a0 a1 a2 N _ hN).mono ?_; rintro e w2 ⟨v, rfl, hr, hy⟩; obtain ⟨g0, k0, hz0⟩ := pr_form hr hN0; subst hz0; have AX := Aside0.mk (And.intro (blk_below hrx hy) hr); have HB2 := Aside0.mk (below_step hb1 hy); clear hrx hb1 hy hr hN)
    | ((with_reducible refine gate_dst (N := 37) rfl ?_); refine Kd.R_make (w0 := w2) (Kd.int .i64) w2.heap.size 3 rfl (N := 37) rfl 34 (.tmp 36) (.tmp 36) rfl (N.length : Int) rfl rfl Try.underlying34 (.int .i64 0) 8 (by kernel_rfl) rfl (by decide) (by decide) (0 : Int) (ok := TP_) (okp := TP_) rfl (fun _ hk => hk) trivial (by omega) (by rw [Int.toNat_natCast]; omega) (Below.refl _ _) (Nat.le_refl _) ?_; intro vf w3 ho3 hb3 hg3 hx3; rw [Int.toNat_natCast] at ho3; obtain ⟨gp, cp, hzf⟩ := pr_form ho3 (by rw [List.length_replicate]; omega); rw [List.length_replicate] at hzf; subst hzf; have hgp : w2.heap.size ≤ gp := Kd.R_base ho3 gp rfl; clear hx3 hg3))
  go_loopw [40] (fun x40 wr => ∃ i : Nat, i ≤ N.length ∧ x40 = .int .i64 (i : Int) ∧ Aside0 (Below w2.heap.size w2 wr ∧ Kd.R (Kd.int .i64) 3 wr w2.heap.size TP_ (.slice (some ⟨gp, 0, none⟩) N.length cp) (Uf.iota i ++ List.replicate (N.length - i) 0))) (fun x40 _ => N.length - (RowKit.intOf x40).toNat)
  case atStart => exact ⟨0, Nat.zero_le _, rfl, Aside0.mk ⟨hb3, ho3⟩⟩
  case round =>
    clear hb3 ho3
    obtain ⟨i, hi, rfl, HB⟩ := hrel
    by_cases hil : i < N.length
    · have hdec : decide ((i : Int) < (N.length : Int)) = true := decide_eq_true (by omega)
      have hi0 : (0 : Int) ≤ (i : Int) := Int.natCast_nonneg _
      obtain ⟨hcc, hff⟩ := pr_icell HB.out.2 i hil
      have hpt := pr_put HB.out.2 i (i : Int)
      rw [Uf.iota_step _ _ hil] at hpt
      have HB2' := Aside0.mk (And.intro (HB.out.1.setCell (p := ⟨gp, i, none⟩) hgp (.int .i64 (i : Int))) hpt)
      clear hpt
      go_wp2
      exact ⟨⟨i + 1, by omega, rfl, HB2'⟩, by simp [RowKit.intOf]; omega⟩
    · obtain rfl : i = N.length := by omega
      have hdec : decide ((N.length : Int) < (N.length : Int)) = false := decide_eq_false (by omega)
      have hF := HB.out.2
      rw [Nat.sub_self, List.replicate_zero, List.append_nil] at hF
      have HC := Aside0.mk (And.intro HB.out.1 hF)
      clear hF HB
      have hlen : (Uf.iota N.length).length = N.length := by unfold Uf.iota; simp
      go_wp2
      go_loopw [50] (fun x50 wq => ∃ (i : Nat) (P : List Int), i ≤ N.length ∧ x50 = .int .i64 (i : Int) ∧ P.length = N.length ∧ Hid (Uf.outP (fun s => spec_ruMoves.f 3000 s o b l) rkS i (N.drop i) P = some P9) ∧ Aside0 (Below w2.heap.size w2 wq ∧ Kd.R (Kd.int .i64) 3 wq w2.heap.size TP_ (.slice (some ⟨gp, 0, none⟩) N.length cp) P)) (fun x50 _ => N.length - (RowKit.intOf x50).toNat)
      case atStart => exact ⟨0, _, Nat.zero_le _, rfl, hlen, HP, HC⟩
      case round =>
        clear HP HC hlen hdec
        obtain ⟨i, P, hi, rfl, hPl, HP, HC⟩ := hrel
        by_cases hil : i < N.length
        · have hdec : decide ((i : Int) < (N.length : Int)) = true := decide_eq_true (by omega)
          have hi0 : (0 : Int) ≤ (i : Int) := Int.natCast_nonneg _
          have hil' : (i : Int) < (N.length : Int) := by omega
          have hp := HP.out
          rw [List.drop_eq_getElem_cons hil, Uf.outP] at hp
          obtain ⟨ms, hms, hp⟩ := Option.bind_eq_some_iff.mp hp
          by_cases hml : ms.length ≤ 1000000
          case neg => rw [if_neg hml] at hp; cases hp
          rw [if_pos hml] at hp
          obtain ⟨P2, hv, hp⟩ := Option.bind_eq_some_iff.mp hp
          have hx := pr_scell (Kd.R_below AX.out.2 HC.out.1) i hil
          have hrd : N.getD i ByteArray.empty = N[i] := by
            rw [List.getD_eq_getElem?_getD, List.getElem?_eq_getElem hil]
            rfl
          rw [hrd] at hx
          have HP2 := Lib.hid hp
          have HV := Lib.hid hv
          clear hp hrd HP hv
          generalize N[i] = x at *
          have hrx := blk_below AX.out.1 HC.out.1
          have c0 : wr.cell? ⟨w.heap.size, 0, none⟩ = some (.bool o) := (blk_cell hrx 0).trans rfl
          have c1 : wr.cell? ⟨w.heap.size, 1, none⟩ = some (.bool b) := (blk_cell hrx 1).trans rfl
          have c2 : wr.cell? ⟨w.heap.size, 2, none⟩ = some (.bool l) := (blk_cell hrx 2).trans rfl
          clear hrx
          go_wp2_with (first
            | (go_at_call 39; refine (spec_ruMoves.calls 3000 x o b l ms _ hms).mono ?_; rintro e w5 ⟨v5, rfl, ho5, hb5⟩; obtain ⟨Am, cm, hzm⟩ := Kd.R_slice ho5; subst hzm; have HC5 := Aside0.mk (show Below w2.heap.size w2 w5 ∧ Kd.R (Kd.int .i64) 3 w5 w2.heap.size TP_ (.slice (some ⟨gp, 0, none⟩) N.length cp) P ∧ Kd.R k58 58 w5 w2.heap.size TP_ (.slice Am ms.length cm) ms from ⟨below_step HC.out.1 hb5, Kd.R_below HC.out.2 hb5, Kd.R_lower ho5 HC.out.1.size⟩); clear HC c0 c1 c2 hx ho5 hb5 hms))
          go_loopw [59] (fun x59 wq => ∃ (j : Nat) (P' : List Int), x59 = .int .i64 (j : Int) ∧ j ≤ ms.length ∧ P'.length = N.length ∧ Hid (Uf.innP (rkS x) i (ms.drop j) P' = some P2) ∧ Aside0 (Below w2.heap.size w2 wq ∧ Kd.R (Kd.int .i64) 3 wq w2.heap.size TP_ (.slice (some ⟨gp, 0, none⟩) N.length cp) P' ∧ Kd.R k58 58 wq w2.heap.size TP_ (.slice Am ms.length cm) ms)) (fun x59 _ => ms.length - (RowKit.intOf x59).toNat)
          case atStart => exact ⟨0, P, rfl, Nat.zero_le _, hPl, HV, HC5⟩
          case round =>
            clear HV HC5 hPl hdec
            obtain ⟨j, P', rfl, hj, hPl', HV, HC⟩ := hrel
            have hv := HV.out
            by_cases hjl : j < ms.length
            · have hdec : decide ((j : Int) < (ms.length : Int)) = true := decide_eq_true (by omega)
              have hj0 : (0 : Int) ≤ (j : Int) := Int.natCast_nonneg _
              obtain ⟨gm, cm', hvm⟩ := pr_form HC.out.2.2 (by omega)
              injection hvm with hA _ hcm
              subst hA
              subst hcm
              obtain ⟨ad, ead, hx0, hx1⟩ := at_T58 (Kd.R_reads' HC.out.2.2).2.2 (j : Int) (by omega) (by omega)
              have hd : ms.drop j = rd_T58 ms (j : Int) :: ms.drop (j + 1) := by
                rw [List.drop_eq_getElem_cons hjl]
                unfold rd_T58
                rw [Int.toNat_natCast, List.getD_eq_getElem?_getD, List.getElem?_eq_getElem hjl]
                rfl
              rw [hd] at hv
              rw [Int.toNat_natCast] at hx0 hx1
              clear hd HV
              cases ead
              generalize rd_T58 ms (j : Int) = m at *
              obtain ⟨f, t⟩ := m
              replace hx0 : wr.cell? ⟨gm, j * 2, none⟩ = some (.int .i64 f) := by rw [Addr.add_lit, Nat.zero_add] at hx0; exact hx0
              replace hx1 : wr.cell? ⟨gm, j * 2 + 1, none⟩ = some (.int .i64 t) := by rw [Addr.add_lit, Nat.zero_add] at hx1; exact hx1
              rw [Uf.innP] at hv
              obtain ⟨k, hrk, hv⟩ := Option.bind_eq_some_iff.mp hv
              by_cases hkb : 0 ≤ k ∧ k < (P'.length : Int)
              case neg => rw [if_neg hkb] at hv; cases hv
              rw [if_pos hkb] at hv
              obtain ⟨kn, rfl⟩ : ∃ n : Nat, k = (n : Int) := ⟨k.toNat, by omega⟩
              rw [Int.toNat_natCast] at hv
              obtain ⟨pi, hpi⟩ : ∃ p, P'.getD i 0 = p := ⟨_, rfl⟩
              obtain ⟨pk, hpk⟩ : ∃ p, P'.getD kn 0 = p := ⟨_, rfl⟩
              rw [hpi, hpk] at hv
              have hlow := least_min pi pk
              have hhigh := most_max pi pk
              have hk0 : (0 : Int) ≤ (kn : Int) := Int.natCast_nonneg _
              have hk1 : (kn : Int) < (N.length : Int) := by omega
              have hkn : kn < N.length := by omega
              have HV2 := Lib.hid hv
              clear hv hkb
              generalize min pi pk = low at *
              generalize max pi pk = high at *
              unfold rkS at hrk
              obtain ⟨y, hy, hrk⟩ := Option.bind_eq_some_iff.mp hrk
              obtain ⟨⟨r1, r2⟩, hr, hrk⟩ := Option.bind_eq_some_iff.mp hrk
              obtain rfl : r1 = (kn : Int) := Option.some.inj hrk
              clear hrk
              have hb4 : Below wr.heap.size wr (wr.alloc (.cells #[.int .i64 f, .int .i64 t] 58 (0, 0))) := below_alloc (Below.refl _ _) _
              go_wp2_with (first
                | (go_at_call 48; refine (spec_liMake.calls x f t y _ hy).mono ?_; rintro e w6 ⟨rfl, hb6⟩; have hb7 := below_step hb4 hb6; clear hb4 hb6 hx0 hx1 hy)
                | (go_at_call 47; refine (spec_RankOfLine.calls 2000 y _ r2 _ hr).mono ?_; rintro e w8 ⟨rfl, m8, rfl⟩; have hb8 := pw_below_drewN hb7 m8; clear hr hb7; generalize w6.drewN m8 = w8 at *))
              skip
              have HD := Aside0.mk (And.intro (below_step HC.out.1 hb8) (And.intro (Kd.R_below HC.out.2.1 hb8) (Kd.R_below HC.out.2.2 hb8)))
              obtain ⟨hci, _⟩ := pr_icell HD.out.2.1 i hil
              obtain ⟨hck, _⟩ := pr_icell HD.out.2.1 kn hkn
              rw [hpi] at hci
              rw [hpk] at hck
              clear hb8 HC
              refine start_ (n := 20) (S := fun w' => w'.cell? ⟨gp, i, none⟩ = some (.int .i64 pi) ∧ w'.cell? ⟨gp, kn, none⟩ = some (.int .i64 pk)) (ds := []) #[false, false, false, false, false, false, false, false, false, false, false, false, false, false, false, false, false, false, false, false] (by kernel_rfl) rfl rfl ⟨hci, hck⟩ (fun hHeld => ?_)
              refine pure_ (i := 0) (N := some 70) (v := ?_) (a' := ?_) #[true, false, false, false, false, false, false, false, false, false, false, false, false, false, false, false, false, false, false, false] rfl rfl (by kernel_rfl) (fun _ _ _ h => h) (Or.inl ⟨by rfl, ?_⟩) ?_ ?_
              rotate_left
              · intro w'
                go_simp
                with_reducible rfl
              rotate_left
              · simp only [Act.put, List.setIfInBounds_toArray, List.set_cons_zero, List.set_cons_succ, i64_w, i32_w]
                rfl
              refine pure_ (i := 1) (N := some 71) (v := ?_) (a' := ?_) #[true, true, false, false, false, false, false, false, false, false, false, false, false, false, false, false, false, false, false, false] rfl rfl (by kernel_rfl) (fun _ _ _ h => h) (Or.inl ⟨by rfl, ?_⟩) ?_ ?_
              rotate_left
              · intro w'
                go_simp
                with_reducible rfl
              rotate_left
              · simp only [Act.put, List.setIfInBounds_toArray, List.set_cons_zero, List.set_cons_succ, i64_w, i32_w]
                rfl
              refine pure_ (i := 2) (N := some 72) (v := ?_) (a' := ?_) #[true, true, true, false, false, false, false, false, false, false, false, false, false, false, false, false, false, false, false, false] rfl rfl (by kernel_rfl) (fun _ _ _ h => h) (Or.inl ⟨by rfl, ?_⟩) ?_ ?_
              rotate_left
              · intro w'
                go_simp
                with_reducible rfl
              rotate_left
              · simp only [Act.put, List.setIfInBounds_toArray, List.set_cons_zero, List.set_cons_succ, i64_w, i32_w]
                rfl
              refine take_ (i := 3) (N := some 73) (v := ?_) (a' := ?_) #[true, true, true, true, false, false, false, false, false, false, false, false, false, false, false, false, false, false, false, false] rfl rfl (by kernel_rfl) (fun _ _ _ h => h) (Or.inl ⟨by rfl, ?_⟩) hHeld ?_ ?_
              rotate_left
              · rintro w' ⟨s0, s1⟩
                go_simp
                with_reducible rfl
              rotate_left
              · simp only [Act.put, List.setIfInBounds_toArray, List.set_cons_zero, List.set_cons_succ, i64_w, i32_w]
                rfl
              refine pure_ (i := 4) (N := some 74) (v := ?_) (a' := ?_) #[true, true, true, true, true, false, false, false, false, false, false, false, false, false, false, false, false, false, false, false] rfl rfl (by kernel_rfl) (fun _ _ _ h => h) (Or.inl ⟨by rfl, ?_⟩) ?_ ?_
              rotate_left
              · intro w'
                go_simp
                with_reducible rfl
              rotate_left
              · simp only [Act.put, List.setIfInBounds_toArray, List.set_cons_zero, List.set_cons_succ, i64_w, i32_w]
                rfl
              refine pure_ (i := 5) (N := some 75) (v := ?_) (a' := ?_) #[true, true, true, true, true, true, false, false, false, false, false, false, false, false, false, false, false, false, false, false] rfl rfl (by kernel_rfl) (fun _ _ _ h => h) (Or.inl ⟨by rfl, ?_⟩) ?_ ?_
              rotate_left
              · intro w'
                go_simp
                with_reducible rfl
              rotate_left
              · simp only [Act.put, List.setIfInBounds_toArray, List.set_cons_zero, List.set_cons_succ, i64_w, i32_w]
                rfl
              refine pure_ (i := 6) (N := some 76) (v := ?_) (a' := ?_) #[true, true, true, true, true, true, true, false, false, false, false, false, false, false, false, false, false, false, false, false] rfl rfl (by kernel_rfl) (fun _ _ _ h => h) (Or.inl ⟨by rfl, ?_⟩) ?_ ?_
              rotate_left
              · intro w'
                go_simp
                with_reducible rfl
              rotate_left
              · simp only [Act.put, List.setIfInBounds_toArray, List.set_cons_zero, List.set_cons_succ, i64_w, i32_w]
                rfl
              refine take_ (i := 7) (N := some 77) (v := ?_) (a' := ?_) #[true, true, true, true, true, true, true, true, false, false, false, false, false, false, false, false, false, false, false, false] rfl rfl (by kernel_rfl) (fun _ _ _ h => h) (Or.inl ⟨by rfl, ?_⟩) hHeld ?_ ?_
              rotate_left
              · rintro w' ⟨s0, s1⟩
                go_simp
                with_reducible rfl
              rotate_left
              · simp only [Act.put, List.setIfInBounds_toArray, List.set_cons_zero, List.set_cons_succ, i64_w, i32_w]
                rfl
              refine pure_ (i := 9) (N := some 79) (v := ?_) (a' := ?_) #[true, true, true, true, true, true, true, true, false, true, false, false, false, false, false, false, false, false, false, false] rfl rfl (by kernel_rfl) (fun _ _ _ h => h) (Or.inl ⟨by rfl, ?_⟩) ?_ ?_
              rotate_left
              · intro w'
                go_simp
                with_reducible rfl
              rotate_left
              · simp only [Act.put, List.setIfInBounds_toArray, List.set_cons_zero, List.set_cons_succ, i64_w, i32_w]
                rfl
              refine pure_ (i := 10) (N := some 80) (v := ?_) (a' := ?_) #[true, true, true, true, true, true, true, true, false, true, true, false, false, false, false, false, false, false, false, false] rfl rfl (by kernel_rfl) (fun _ _ _ h => h) (Or.inl ⟨by rfl, ?_⟩) ?_ ?_
              rotate_left
              · intro w'
                go_simp
                with_reducible rfl
              rotate_left
              · simp only [Act.put, List.setIfInBounds_toArray, List.set_cons_zero, List.set_cons_succ, i64_w, i32_w]
                rfl
              refine pure_ (i := 11) (N := some 81) (v := ?_) (a' := ?_) #[true, true, true, true, true, true, true, true, false, true, true, true, false, false, false, false, false, false, false, false] rfl rfl (by kernel_rfl) (fun _ _ _ h => h) (Or.inl ⟨by rfl, ?_⟩) ?_ ?_
              rotate_left
              · intro w'
                go_simp
                with_reducible rfl
              rotate_left
              · simp only [Act.put, List.setIfInBounds_toArray, List.set_cons_zero, List.set_cons_succ, i64_w, i32_w]
                rfl
              refine take_ (i := 12) (N := some 82) (v := ?_) (a' := ?_) #[true, true, true, true, true, true, true, true, false, true, true, true, true, false, false, false, false, false, false, false] rfl rfl (by kernel_rfl) (fun _ _ _ h => h) (Or.inl ⟨by rfl, ?_⟩) hHeld ?_ ?_
              rotate_left
              · rintro w' ⟨s0, s1⟩
                go_simp
                with_reducible rfl
              rotate_left
              · simp only [Act.put, List.setIfInBounds_toArray, List.set_cons_zero, List.set_cons_succ, i64_w, i32_w]
                rfl
              refine pure_ (i := 13) (N := some 83) (v := ?_) (a' := ?_) #[true, true, true, true, true, true, true, true, false, true, true, true, true, true, false, false, false, false, false, false] rfl rfl (by kernel_rfl) (fun _ _ _ h => h) (Or.inl ⟨by rfl, ?_⟩) ?_ ?_
              rotate_left
              · intro w'
                go_simp
                with_reducible rfl
              rotate_left
              · simp only [Act.put, List.setIfInBounds_toArray, List.set_cons_zero, List.set_cons_succ, i64_w, i32_w]
                rfl
              refine pure_ (i := 14) (N := some 84) (v := ?_) (a' := ?_) #[true, true, true, true, true, true, true, true, false, true, true, true, true, true, true, false, false, false, false, false] rfl rfl (by kernel_rfl) (fun _ _ _ h => h) (Or.inl ⟨by rfl, ?_⟩) ?_ ?_
              rotate_left
              · intro w'
                go_simp
                with_reducible rfl
              rotate_left
              · simp only [Act.put, List.setIfInBounds_toArray, List.set_cons_zero, List.set_cons_succ, i64_w, i32_w]
                rfl
              refine pure_ (i := 15) (N := some 85) (v := ?_) (a' := ?_) #[true, true, true, true, true, true, true, true, false, true, true, true, true, true, true, true, false, false, false, false] rfl rfl (by kernel_rfl) (fun _ _ _ h => h) (Or.inl ⟨by rfl, ?_⟩) ?_ ?_
              rotate_left
              · intro w'
                go_simp
                with_reducible rfl
              rotate_left
              · simp only [Act.put, List.setIfInBounds_toArray, List.set_cons_zero, List.set_cons_succ, i64_w, i32_w]
                rfl
              refine take_ (i := 16) (N := some 86) (v := ?_) (a' := ?_) #[true, true, true, true, true, true, true, true, false, true, true, true, true, true, true, true, true, false, false, false] rfl rfl (by kernel_rfl) (fun _ _ _ h => h) (Or.inl ⟨by rfl, ?_⟩) hHeld ?_ ?_
              rotate_left
              · rintro w' ⟨s0, s1⟩
                go_simp
                with_reducible rfl
              rotate_left
              · simp only [Act.put, List.setIfInBounds_toArray, List.set_cons_zero, List.set_cons_succ, i64_w, i32_w]
                rfl
              refine one_ (i := 8) (N := some 78) #[true, true, true, true, true, true, true, true, true, true, true, true, true, true, true, true, true, false, false, false] rfl rfl (by kernel_rfl) (by decide) (fun K hK => ?_)
              refine goes_ Try.func49 (by kernel_rfl) rfl #[.int .i64 pi, .int .i64 pk] (by rfl) rfl rfl (by (try simp only [List.map_toArray, List.map_cons, List.map_nil]); first | done | rfl) ?_
              with_reducible refine (spec_l1Least.calls pi pk low _ hlow).mono ?_
              rintro e4 W4 ⟨rfl, m4, rfl⟩
              refine ⟨_, rfl, ?_⟩
              refine hK.out _ _ ⟨hci, hck⟩ (fun hHeld => ?_)
              clear hK K
              refine norm_ (a' := ?_) ?_ ?_
              rotate_left
              · show Act.put _ (some 78) _ = _
                simp only [Act.put, List.setIfInBounds_toArray, List.set_cons_zero, List.set_cons_succ, i64_w, i32_w]
                rfl
              refine one_ (i := 17) (N := some 87) #[true, true, true, true, true, true, true, true, true, true, true, true, true, true, true, true, true, true, false, false] rfl rfl (by kernel_rfl) (by decide) (fun K hK => ?_)
              refine goes_ Try.func50 (by kernel_rfl) rfl #[.int .i64 pi, .int .i64 pk] (by rfl) rfl rfl (by (try simp only [List.map_toArray, List.map_cons, List.map_nil]); first | done | rfl) ?_
              with_reducible refine (spec_l1Most.calls pi pk high _ hhigh).mono ?_
              rintro e5 W5 ⟨rfl, m5, rfl⟩
              refine ⟨_, rfl, ?_⟩
              refine hK.out _ _ ⟨hci, hck⟩ (fun hHeld => ?_)
              clear hK K
              refine norm_ (a' := ?_) ?_ ?_
              rotate_left
              · show Act.put _ (some 87) _ = _
                simp only [Act.put, List.setIfInBounds_toArray, List.set_cons_zero, List.set_cons_succ, i64_w, i32_w]
                rfl
              refine pure_ (i := 18) (N := some 19) (v := ?_) (a' := ?_) #[true, true, true, true, true, true, true, true, true, true, true, true, true, true, true, true, true, true, true, false] rfl rfl (by kernel_rfl) (fun _ _ _ h => h) (Or.inl ⟨by rfl, ?_⟩) ?_ ?_
              rotate_left
              · intro w'
                go_simp
                with_reducible rfl
              rotate_left
              · simp only [Act.put, List.setIfInBounds_toArray, List.set_cons_zero, List.set_cons_succ, i64_w, i32_w]
                rfl
              refine pure_ (i := 19) (N := some 20) (v := ?_) (a' := ?_) #[true, true, true, true, true, true, true, true, true, true, true, true, true, true, true, true, true, true, true, true] rfl rfl (by kernel_rfl) (fun _ _ _ h => h) (Or.inl ⟨by rfl, ?_⟩) ?_ ?_
              rotate_left
              · intro w'
                go_simp
                with_reducible rfl
              rotate_left
              · simp only [Act.put, List.setIfInBounds_toArray, List.set_cons_zero, List.set_cons_succ, i64_w, i32_w]
                rfl
              refine done_ (by kernel_rfl) ?_
              have HE : Aside0 (Below w2.heap.size w2 ((w8.drew.drewN m4).drewN m5) ∧ Kd.R (Kd.int .i64) 3 ((w8.drew.drewN m4).drewN m5) w2.heap.size TP_ (.slice (some ⟨gp, 0, none⟩) N.length cp) (Uf.mergeTo low high 0 P') ∧ Kd.R k58 58 ((w8.drew.drewN m4).drewN m5) w2.heap.size TP_ (.slice (some ⟨gm, 0, none⟩) ms.length cm) ms) := Aside0.mk ⟨pw_below_drewN (pw_below_drewN (below_drew1 HD.out.1) m4) m5, Kd.R_drewN (Kd.R_drewN (Kd.R_drew HD.out.2.1) m4) m5, Kd.R_drewN (Kd.R_drewN (Kd.R_drew HD.out.2.2) m4) m5⟩
              clear HD hci hck hHeld
              generalize (w8.drew.drewN m4).drewN m5 = w9 at *
              go_wp2
              go_loopw [90] (fun x90 wz => ∃ q : Nat, q ≤ N.length ∧ x90 = .int .i64 (q : Int) ∧ Aside0 (Below w2.heap.size w2 wz ∧ Kd.R (Kd.int .i64) 3 wz w2.heap.size TP_ (.slice (some ⟨gp, 0, none⟩) N.length cp) (Uf.mergeTo low high q P') ∧ Kd.R k58 58 wz w2.heap.size TP_ (.slice (some ⟨gm, 0, none⟩) ms.length cm) ms)) (fun x90 _ => N.length - (RowKit.intOf x90).toNat)
              case atStart => exact ⟨0, Nat.zero_le _, rfl, HE⟩
              case round =>
                clear HE hdec
                obtain ⟨q, hq, rfl, HE⟩ := hrel
                by_cases hql : q < N.length
                · have hdec : decide ((q : Int) < (N.length : Int)) = true := decide_eq_true (by omega)
                  have hq0 : (0 : Int) ≤ (q : Int) := Int.natCast_nonneg _
                  obtain ⟨hcc, hff⟩ := pr_icell HE.out.2.1 q hql
                  rw [Uf.mergeTo_at low high (by omega)] at hcc
                  by_cases hqh : P'.getD q 0 = high
                  · have HF := Aside0.mk (And.intro (HE.out.1.setCell (p := ⟨gp, q, none⟩) hgp (.int .i64 low)) (And.intro (show Kd.R (Kd.int .i64) 3 (wr.setCell ⟨gp, q, none⟩ (.int .i64 low)) w2.heap.size TP_ (.slice (some ⟨gp, 0, none⟩) N.length cp) (Uf.mergeTo low high (q + 1) P') from (Uf.mergeTo_yes low high (show q < P'.length by omega) hqh) ▸ pr_put HE.out.2.1 q low) (by obtain ⟨cells, hbk⟩ := Kd.R_typed HE.out.2.1 gp rfl; exact Kd.R_set HE.out.2.2 hbk (by decide) q (.int .i64 low))))
                    rw [hqh] at hcc
                    have hbe : (high == high) = true := beq_self_eq_true _
                    clear HE hqh
                    go_wp2
                    exact ⟨⟨q + 1, by omega, rfl, HF⟩, by simp [RowKit.intOf]; omega⟩
                  · have HF : Aside0 (Below w2.heap.size w2 wr ∧ Kd.R (Kd.int .i64) 3 wr w2.heap.size TP_ (.slice (some ⟨gp, 0, none⟩) N.length cp) (Uf.mergeTo low high (q + 1) P') ∧ Kd.R k58 58 wr w2.heap.size TP_ (.slice (some ⟨gm, 0, none⟩) ms.length cm) ms) := Aside0.mk ⟨HE.out.1, (Uf.mergeTo_no low high (show q < P'.length by omega) hqh) ▸ HE.out.2.1, HE.out.2.2⟩
                    have hbe : (P'.getD q 0 == high) = false := beq_eq_false_iff_ne.2 hqh
                    clear HE
                    generalize P'.getD q 0 = pq at *
                    go_wp2
                    exact ⟨⟨q + 1, by omega, rfl, HF⟩, by simp [RowKit.intOf]; omega⟩
                · obtain rfl : q = N.length := by omega
                  have hdec : decide ((N.length : Int) < (N.length : Int)) = false := decide_eq_false (by omega)
                  have HF : Aside0 (Below w2.heap.size w2 wr ∧ Kd.R (Kd.int .i64) 3 wr w2.heap.size TP_ (.slice (some ⟨gp, 0, none⟩) N.length cp) (Uf.merge low high P') ∧ Kd.R k58 58 wr w2.heap.size TP_ (.slice (some ⟨gm, 0, none⟩) ms.length cm) ms) := Aside0.mk ⟨HE.out.1, by have h := HE.out.2.1; rw [← hPl', Uf.mergeTo_all] at h; rw [← hPl']; exact h, HE.out.2.2⟩
                  clear HE
                  go_wp2
                  exact ⟨⟨j + 1, _, rfl, by omega, by rw [Uf.merge_len]; exact hPl', HV2, HF⟩, by simp [RowKit.intOf]; omega⟩
            · obtain rfl : j = ms.length := by omega
              have hdec : decide ((ms.length : Int) < (ms.length : Int)) = false := decide_eq_false (by omega)
              rw [List.drop_length, Uf.innP] at hv
              obtain rfl := Option.some.inj hv
              clear hv HV
              go_wp2
              exact ⟨⟨i + 1, _, by omega, rfl, hPl', HP2, Aside0.mk ⟨HC.out.1, HC.out.2.1⟩⟩, by simp [RowKit.intOf]; omega⟩
        · obtain rfl : i = N.length := by omega
          have hdec : decide ((N.length : Int) < (N.length : Int)) = false := decide_eq_false (by omega)
          have hp := HP.out
          rw [List.drop_length, Uf.outP] at hp
          obtain rfl := Option.some.inj hp
          clear hp HP
          go_wp2
          go_loopw [23, 107] (fun x23 x107 wz => ∃ q : Nat, q ≤ N.length ∧ x107 = .int .i64 (q : Int) ∧ x23 = .int .i64 ((Uf.fixTo P q : Nat) : Int) ∧ wz = wr) (fun _ x107 _ => N.length - (RowKit.intOf x107).toNat)
          case atStart => exact ⟨0, Nat.zero_le _, rfl, rfl, rfl⟩
          case round =>
            clear hdec
            obtain ⟨q, hq, rfl, rfl, hwr⟩ := hrel
            subst hwr
            by_cases hql : q < N.length
            · have hdec : decide ((q : Int) < (N.length : Int)) = true := decide_eq_true (by omega)
              have hq0 : (0 : Int) ≤ (q : Int) := Int.natCast_nonneg _
              obtain ⟨hcc, hff⟩ := pr_icell HC.out.2 q hql
              have hle := Uf.fixTo_le P q
              by_cases hqe : P.getD q 0 = (q : Int)
              · rw [hqe] at hcc
                have hbe : ((q : Int) == (q : Int)) = true := beq_self_eq_true _
                have HS := Lib.hid (Uf.fixTo_yes hqe)
                clear hqe
                generalize Uf.fixTo P q = n at *
                go_wp2
                exact ⟨⟨q + 1, by omega, rfl, by rw [HS.out]; rfl, (by first | rfl | trivial)⟩, by simp [RowKit.intOf]; omega⟩
              · have hbe : (P.getD q 0 == (q : Int)) = false := beq_eq_false_iff_ne.2 hqe
                have HS := Lib.hid (Uf.fixTo_no hqe)
                clear hqe
                generalize P.getD q 0 = pq at *
                generalize Uf.fixTo P q = n at *
                go_wp2
                exact ⟨⟨q + 1, by omega, rfl, by rw [HS.out], (by first | rfl | trivial)⟩, by simp [RowKit.intOf]; omega⟩
            · obtain rfl : q = N.length := by omega
              have hdec : decide ((N.length : Int) < (N.length : Int)) = false := decide_eq_false (by omega)
              go_wp2
              go_ret2
              exact ⟨rfl, below_step HB2.out HC.out.1⟩
end
/-- how many parts the reference counts -/
def spec_PartsByRule.f (a0 a1 a2 : Int) (a3_0 a3_1 a3_2 : Bool) : Option (Int × Bool) := (spec_ruThree.f 1000 a0 a1 a2).bind fun r => if r = true then ((spec_ruLines.f 2000000 a0 a1 a2).bind fun N => if 0 < N.length ∧ N.length ≤ 1000000 then ((Go.Proofs.Ytpelhinjoambfaa.Uf.outP (fun s => spec_ruMoves.f 3000 s a3_0 a3_1 a3_2) rkS 0 N (Go.Proofs.Ytpelhinjoambfaa.Uf.iota N.length)).bind fun P => some (((Go.Proofs.Ytpelhinjoambfaa.Uf.fixes N.length P : Nat) : Int), true)) else none) else some (0, false)
theorem spec_PartsByRule.calls (a0 a1 a2 : Int) (a3_0 a3_1 a3_2 : Bool) (r1 : Int) (r2 : Bool) (w : World) (h : spec_PartsByRule.f a0 a1 a2 a3_0 a3_1 a3_2 = some (r1, r2)) :
    Calls Try.prog 22 #[.int .i64 a0, .int .i64 a1, .int .i64 a2, .agg #[.bool a3_0, .bool a3_1, .bool a3_2]] w fun e w' => e = .returned (.tuple #[.int .i64 r1, .bool r2]) ∧ Below w.heap.size w w' := by
  unfold spec_PartsByRule.f at h
  obtain ⟨r, hr, h⟩ := Option.bind_eq_some_iff.mp h
  cases r with
  | false =>
    rw [if_neg (by decide)] at h
    cases h
    exact spec_PartsByRule.no_ _ _ _ a0 a1 a2 w hr
  | true =>
    rw [if_pos rfl] at h
    obtain ⟨N, hN, h⟩ := Option.bind_eq_some_iff.mp h
    by_cases hn : 0 < N.length ∧ N.length ≤ 1000000
    case neg => rw [if_neg hn] at h; cases h
    rw [if_pos hn] at h
    obtain ⟨P, hP, h⟩ := Option.bind_eq_some_iff.mp h
    cases h
    exact spec_PartsByRule.walk _ _ _ a0 a1 a2 N P w hr hN hn.1 hn.2 hP


end Go.Proofs.Ytpelhinjoambfaa.XP
