/- The Lean functions that the Go functions of this seat compute, each with the proof that the Go function computes it, for every input (laws: FnExactComesAround). Conditions: none beyond those that each theorem names. Written by a program of this session over the kit's printer. -/
import Derived.Test.YtjgijaocinpkhaaDoorXQ0
import Derived.Test.YtjgijaocinpkhaaDoorXQ1
import Derived.Test.YtjgijaocinpkhaaDoorXQ2
import Derived.Test.YtjgijaocinpkhaaDoorXQ4
namespace Go.Proofs.YtjgijaocinpkhaaDoor.XQ
open Go.RowKit Go.Proofs.YtjgijaocinpkhaaDoorW.PrintWords Go.Proofs.YtjgijaocinpkhaaDoorW.PrintLast Go.Proofs.YtjgijaocinpkhaaDoorW.PrintMore
attribute [local go_sem] max2_int min2_int max_two min_two max_three min_three max_four min_four   -- for this text's walks alone
attribute [local go_sem] Lib.run_min_strs Go.Proofs.YtjgijaocinpkhaaDoorXW.run_min2_strs Go.Proofs.YtjgijaocinpkhaaDoorXW.run_int_string
set_option linter.unusedVariables false
set_option linter.unusedSimpArgs false

/-! ### spec_ComesAround: function 31 (given) -/
section
open Go Go.RowKit Go.Lib Go.Proofs.YtjgijaocinpkhaaDoorW.PrintWords Go.Proofs.YtjgijaocinpkhaaDoorW.PrintLast Go.Proofs.YtjgijaocinpkhaaDoor.Pm
-- uses spec_ciPath.calls spec_ciGood.calls spec_ciReach.calls spec_ciGraph_to.calls
theorem roundT_most {d : Nat} (hd : d < 1000000) : ∀ (rows : List (List Int)) (i : Nat) (far : List Int) (b : Bool), (∀ x ∈ far, x < 1000000) → ∀ x ∈ (roundT d i rows far b).1, x < 1000000
  | [], _, _, _, h => h
  | row :: rest, i, far, b, h => by
    rw [roundT]
    split
    · exact roundT_most hd rest (i + 1) far b h
    · split
      · refine roundT_most hd rest (i + 1) _ true (fun x hx => ?_)
        rcases List.mem_or_eq_of_mem_set hx with hx | rfl
        · exact h x hx
        · omega
      · exact roundT_most hd rest (i + 1) far b h
theorem toT_most {N : List (List Int)} : ∀ (k d : Nat) (far F : List Int), toT N k d far = some F → (∀ x ∈ far, x < 1000000) → ∀ x ∈ F, x < 1000000
  | 0, _, _, _, h, _ => by cases h
  | k + 1, d, far, F, h, hf => by
    rw [toT] at h
    split at h
    case isFalse => cases h
    rename_i hd
    split at h
    · exact toT_most k _ _ F h (roundT_most hd N 0 far false hf)
    · cases h
      exact roundT_most hd N 0 far false hf
theorem far0_most (n v : Nat) : ∀ x ∈ far0 n v, x < 1000000 := fun x hx => by
  unfold far0 at hx
  rcases List.mem_or_eq_of_mem_set hx with hx | rfl
  · have := (List.mem_replicate.1 hx).2
    omega
  · decide
def comeS (F : List Int) : List Int → Int → Int
  | [], l => l
  | k :: r, l => comeS F r (if 0 ≤ rdOf 0 F k ∧ (l < 0 ∨ rdOf 0 F k + 1 < l) then rdOf 0 F k + 1 else l)
def comeR (l : Int) : Int × Bool := if l < 0 then (0, false) else (l, true)
/-- how far each ring that is reached is from the first one -/
def comeG (KM K : Nat) (a : ByteArray) : Option ((List ByteArray × List (List Int)) × List Int) := (ringG KM K a).bind fun RN => (toT RN.2 K 1 (far0 RN.1.length 0)).bind fun F => some (RN, F)
set_option maxHeartbeats 4000000 in
set_option maxRecDepth 1000000 in
theorem spec_ComesAround.no1 (k : Nat) (a : ByteArray) (w : World) (h : spec_ciGood.f k a = some false) :
    Calls Tryd.prog 31 #[.string a] w fun e w' => e = .returned (.tuple #[.int .i64 0, .bool false]) ∧ Below w.heap.size w w' := by
  go_enter Tryd.func31, Tryd.ntmps31
  go_wp2_with (first
    | (go_at_call 46; refine (spec_ciGood.calls k a false _ h).mono ?_; clear h; rintro e w1 ⟨rfl, m1, rfl⟩; have hb1 := pw_below_drewN (Below.refl w.heap.size w) m1; generalize w.drewN m1 = w1 at *))
  go_ret2
  exact ⟨rfl, hb1⟩
set_option maxHeartbeats 4000000 in
set_option maxRecDepth 1000000 in
theorem spec_ComesAround.walk (k KM K : Nat) (a : ByteArray) (RN : List ByteArray × List (List Int)) (F : List Int) (w : World) (h : spec_ciGood.f k a = some true) (hP : comeG KM K a = some (RN, F)) :
    Calls Tryd.prog 31 #[.string a] w fun e w' => e = .returned (.tuple #[.int .i64 (comeR (comeS F (RN.2.getD 0 []) (-1))).1, .bool (comeR (comeS F (RN.2.getD 0 []) (-1))).2]) ∧ Below w.heap.size w w' := by
  unfold comeG at hP
  obtain ⟨RN', hr, hP⟩ := Option.bind_eq_some_iff.mp hP
  obtain ⟨F', hF, hP⟩ := Option.bind_eq_some_iff.mp hP
  cases hP
  obtain ⟨R, N⟩ := RN
  obtain ⟨o1, o2, o3, o4⟩ := ringG_ok hr
  replace o1 : N.length = R.length := o1
  replace o2 : R.length ≤ 1000000 := o2
  replace o3 : 1 ≤ R.length := o3
  have HO : Aside0 (∀ row ∈ N, row.length ≤ 1000000 ∧ ∀ x ∈ row, 0 ≤ x ∧ x < (R.length : Int)) := Aside0.mk o4
  have HF := Lib.hid hF
  have HM := Aside0.mk (toT_most _ _ _ _ hF (far0_most _ _))
  clear o4 hF
  obtain ⟨row, hrow⟩ : ∃ row, N.getD 0 [] = row := ⟨_, rfl⟩
  have hmem : row ∈ N := by rw [← hrow, List.getD_eq_getElem?_getD, List.getElem?_eq_getElem (by omega)]; exact List.getElem_mem _
  have hN0 : decide ((0 : Int) < (N.length : Int)) = true := decide_eq_true (by omega)
  show Calls _ _ _ _ fun e w' => e = .returned (.tuple #[.int .i64 (comeR (comeS F (N.getD 0 []) (-1))).1, .bool (comeR (comeS F (N.getD 0 []) (-1))).2]) ∧ _
  rw [hrow]
  go_enter Tryd.func31, Tryd.ntmps31
  go_wp2_with (first
    | (go_at_call 46; refine (spec_ciGood.calls k a true _ h).mono ?_; clear h; rintro e w1 ⟨rfl, m1, rfl⟩; have hb1 := pw_below_drewN (Below.refl w.heap.size w) m1; generalize w.drewN m1 = w1 at *)
    | (go_at_call 48; refine (spec_ciReach.walk KM K a (R, N) _ hr).mono ?_; clear hr; rintro e2 w2 ⟨G, v0, v1, rfl, hX⟩; have hb2 := below_step hb1 hX.B; have hs2 := hX.B.size; have hg2 := hX.gr; clear hX)
    | (go_at_call 65; refine (spec_ciGraph_to.walk K R N F G w1.heap.size v0 v1 0 w2 hg2 hs2 (by omega) (by omega) HO.out o2 HF.out).mono ?_; rintro e3 w3 ⟨⟨vf, rfl, hRf, hFl⟩, hx3⟩; have hb3 := below_step hb2 hx3; have hg3 := hg2.up hx3; obtain ⟨gf, cf, hzf⟩ := R_form hRf (by omega); subst hzf; obtain ⟨g1, c1, hz1⟩ := R_form hg3.r1 (by omega); subst hz1; have hc1 : w3.cell? ⟨G, 1, none⟩ = some (.slice (some ⟨g1, 0, none⟩) N.length c1) := (blk_cell hg3.p 1).trans rfl; obtain ⟨vr, hvr, hRr⟩ := R_rcell hg3.r1 0 (by omega); rw [hrow] at hRr; obtain ⟨Ar, cr, hzr⟩ := Kd.R_slice hRr; subst hzr; clear hx3 hg2 hg3))
  have hrl := (HO.out row hmem).1
  go_loopw [6, 23] (fun x6 x23 wr => ∃ (j : Nat) (l : Int), x6 = .int .i64 l ∧ x23 = .int .i64 (j : Int) ∧ j ≤ row.length ∧ -1 ≤ l ∧ l ≤ 1000000 ∧ Hid (comeS F (row.drop j) l = comeS F row (-1)) ∧ wr = w3) (fun _ x23 _ => row.length - (RowKit.intOf x23).toNat)
  case atStart => exact ⟨0, -1, rfl, rfl, Nat.zero_le _, by decide, by decide, Lib.hid rfl, rfl⟩
  case round =>
    obtain ⟨j, l, rfl, rfl, hj, hl0, hl1, HL, rfl⟩ := hrel
    by_cases hjl : j < row.length
    · have hdec : decide ((j : Int) < (row.length : Int)) = true := decide_eq_true (by omega)
      have hj0 : (0 : Int) ≤ (j : Int) := Int.natCast_nonneg _
      obtain ⟨gr, cr', hAr⟩ := R_form hRr (by omega)
      injection hAr with hA _ hcm
      subst hA
      subst hcm
      have hck := R_icell hRr (j : Int) hj0 (by omega)
      rw [Int.toNat_natCast] at hck
      have hkk := (HO.out row hmem).2 (rdOf 0 row (j : Int)) (by rw [rdI_get hjl]; exact List.getElem_mem hjl)
      have hcf := R_icell hRf (rdOf 0 row (j : Int)) hkk.1 (by omega)
      have hkd : decide (rdOf 0 row (j : Int) < (F.length : Int)) = true := decide_eq_true (by omega)
      have hdr : row.drop j = rdOf 0 row (j : Int) :: row.drop (j + 1) := by
        rw [List.drop_eq_getElem_cons hjl, rdI_get hjl]
      have hL := HL.out
      rw [hdr, comeS] at hL
      have hk1 := hkk.1
      have hk2 : rdOf 0 row (j : Int) < (F.length : Int) := by omega
      have hf1 : rdOf 0 F (rdOf 0 row (j : Int)) < 1000000 := HM.out _ (by
        have hln : (rdOf 0 row (j : Int)).toNat < F.length := by omega
        have := rdI_get hln
        rw [Int.toNat_of_nonneg hk1] at this
        rw [this]
        exact List.getElem_mem hln)
      clear hdr hkk HL
      generalize rdOf 0 row (j : Int) = k at *
      generalize rdOf 0 F k = f at *
      by_cases h1 : 0 ≤ f
      · have hd1 : decide (f ≥ 0) = true := decide_eq_true h1
        have hd1' : decide (0 ≤ f) = true := decide_eq_true h1
        have hwd : wrap64 (f + 1) = f + 1 := by unfold wrap64; omega
        by_cases h2 : l < 0
        · have hd2 : decide (l < 0) = true := decide_eq_true h2
          rw [if_pos ⟨h1, .inl h2⟩] at hL
          have HL := Lib.hid hL
          clear hL
          go_wp2
          exact ⟨⟨j + 1, f + 1, by first | rfl | (rw [hwd]), rfl, by omega, by omega, by omega, HL, by trivial⟩, by simp [RowKit.intOf]; omega⟩
        · have hd2 : decide (l < 0) = false := decide_eq_false h2
          by_cases h3 : f + 1 < l
          · have hd3 : decide (f + 1 < l) = true := decide_eq_true h3
            rw [if_pos ⟨h1, .inr h3⟩] at hL
            have HL := Lib.hid hL
            clear hL
            go_wp2
            exact ⟨⟨j + 1, f + 1, by first | rfl | (rw [hwd]), rfl, by omega, by omega, by omega, HL, by trivial⟩, by simp [RowKit.intOf]; omega⟩
          · have hd3 : decide (f + 1 < l) = false := decide_eq_false h3
            rw [if_neg (by omega)] at hL
            have HL := Lib.hid hL
            clear hL
            go_wp2
            exact ⟨⟨j + 1, l, rfl, rfl, by omega, by omega, by omega, HL, by trivial⟩, by simp [RowKit.intOf]; omega⟩
      · have hd1 : decide (f ≥ 0) = false := decide_eq_false h1
        have hd1' : decide (0 ≤ f) = false := decide_eq_false h1
        rw [if_neg (by omega)] at hL
        have HL := Lib.hid hL
        clear hL
        go_wp2
        exact ⟨⟨j + 1, l, rfl, rfl, by omega, by omega, by omega, HL, by trivial⟩, by simp [RowKit.intOf]; omega⟩
    · obtain rfl : j = row.length := by omega
      have hdec : decide ((row.length : Int) < (row.length : Int)) = false := decide_eq_false (by omega)
      have hL := HL.out
      rw [List.drop_length, comeS] at hL
      clear HL
      by_cases h2 : l < 0
      · have hd2 : decide (l < 0) = true := decide_eq_true h2
        have HC := Lib.hid (show comeR (comeS F row (-1)) = (0, false) by rw [← hL]; exact if_pos h2)
        clear hL
        go_wp2
        go_ret2
        exact ⟨by rw [HC.out]; rfl, hb3⟩
      · have hd2 : decide (l < 0) = false := decide_eq_false h2
        have HC := Lib.hid (show comeR (comeS F row (-1)) = (l, true) by rw [← hL]; exact if_neg h2)
        clear hL
        go_wp2
        go_ret2
        exact ⟨by rw [HC.out]; rfl, hb3⟩
end
/-- the least number of moves with which a ring comes back -/
def spec_ComesAround.f (k : Nat) (a0 : ByteArray) : Option (Int × Bool) := (spec_ciGood.f k a0).bind fun r => if r = true then ((comeG 3000 100000 a0).bind fun P => some (comeR (comeS P.2 (P.1.2.getD 0 []) (-1)))) else some (0, false)
theorem spec_ComesAround.mono : ∀ a0 k, LeO (spec_ComesAround.f k a0) (spec_ComesAround.f (k + 1) a0) := by
  intro a0 k
  unfold spec_ComesAround.f
  exact LeO.bind (spec_ciGood.mono _ _) (fun _ => LeO.refl _)
theorem spec_ComesAround.calls (k : Nat) (a0 : ByteArray) (r1 : Int) (r2 : Bool) (w : World) (h : spec_ComesAround.f k a0 = some (r1, r2)) :
    Calls Tryd.prog 31 #[.string a0] w fun e w' => e = .returned (.tuple #[.int .i64 r1, .bool r2]) ∧ Below w.heap.size w w' := by
  unfold spec_ComesAround.f at h
  obtain ⟨r, hr, h⟩ := Option.bind_eq_some_iff.mp h
  cases r with
  | false =>
    rw [if_neg (by decide)] at h
    cases h
    exact spec_ComesAround.no1 k a0 w hr
  | true =>
    rw [if_pos rfl] at h
    obtain ⟨⟨RN, F⟩, hP, h⟩ := Option.bind_eq_some_iff.mp h
    have h1 := congrArg Prod.fst (Option.some.inj h)
    have h2 := congrArg Prod.snd (Option.some.inj h)
    simp only at h1 h2
    subst h1
    subst h2
    exact spec_ComesAround.walk k 3000 100000 a0 RN F w hr hP


/-! ### impl_isLineOf: function 85 -/
def impl_isLineOf.f (a0 : ByteArray) (a1 : Int) : Option (Bool) := (impl_within.f (a0.size : Int) 1 a1).bind fun t115 => (if t115 = true then ((strings_Trim.f a0 (⟨#[46, 70, 84]⟩ : ByteArray)).bind fun t116 => (some (t116.toList == ([] : List UInt8)))) else (some false))
set_option maxHeartbeats 8000000 in
set_option maxRecDepth 100000 in
theorem impl_isLineOf.calls (a0 : ByteArray) (a1 : Int) (r : Bool) (w : World) (h : impl_isLineOf.f a0 a1 = some r) :
    Calls Tryd.prog 85 #[.string a0, .int .i64 a1] w fun e w' => e = .returned (.bool r) ∧ Below w.heap.size w w' := by
  have HB := Aside0.mk (Below.refl w.heap.size w)
  have H : ((impl_within.f (a0.size : Int) 1 a1).bind fun t115 => (if t115 = true then ((strings_Trim.f a0 (⟨#[46, 70, 84]⟩ : ByteArray)).bind fun t116 => (some (t116.toList == ([] : List UInt8)))) else (some false))) = some r := h
  clear h
  replace H := Option.bind_eq_some_iff.mp H
  obtain ⟨t115, A30, H⟩ := H
  replace H : (if t115 = true then ((strings_Trim.f a0 (⟨#[46, 70, 84]⟩ : ByteArray)).bind fun t116 => (some (t116.toList == ([] : List UInt8)))) else (some false)) = some r := H
  have A3 := Aside0.mk A30
  clear A30
  by_cases c4 : t115 = true
  · subst c4
    have H1 : ((strings_Trim.f a0 (⟨#[46, 70, 84]⟩ : ByteArray)).bind fun t116 => (some (t116.toList == ([] : List UInt8)))) = some r := by rw [if_pos rfl] at H; exact H
    clear H
    have H := H1
    clear H1
    replace H := Option.bind_eq_some_iff.mp H
    obtain ⟨t116, A50, H⟩ := H
    replace H : (some (t116.toList == ([] : List UInt8))) = some r := H
    have A5 := Aside0.mk A50
    clear A50
    obtain rfl := Option.some.inj H
    go_enter Tryd.func85, Tryd.ntmps85
    go_wp2_with (first | ((with_reducible refine gate_callee (f := 102) rfl ?_); refine goesL_ (some 8) rfl rfl Tryd.func102 (by kernel_rfl) rfl #[.int .i64 (a0.size : Int), .int .i64 1, .int .i64 a1] rfl (by (try simp only [List.map_toArray, List.map_cons, List.map_nil]); first | done | rfl | (simp only [List.length_drop, List.length_take]; rfl)) ?_; (with_reducible refine (impl_within.calls (a0.size : Int) 1 a1 true _ A3.out).mono ?_); rintro e w' ⟨rfl, ⟨nd, rfl⟩⟩; refine ⟨_, rfl, ?_⟩) | (go_at_call 105; (with_reducible refine (strings_Trim.calls a0 (⟨#[46, 70, 84]⟩ : ByteArray) t116 _ A5.out).mono ?_); rintro e w6 ⟨rfl, hb⟩; have n0_ := Aside0.mk (below_step (by repeat (first | (with_reducible first | exact HB.out | apply below_alloc | apply pw_below_drewN | apply below_drew1) | exact HB.out)) hb); clear HB; have HB := n0_; clear n0_; (try clear hb); (try clear hb2); (try clear hk); (try clear hi)))
    go_ret
    exact ⟨by first | rfl | (simp [errW_none, errW_some] <;> rfl) | (simp [*, errW_none, errW_some] <;> rfl), by repeat (first | (with_reducible first | exact HB.out | apply below_alloc | apply pw_below_drewN | apply below_drew1) | exact HB.out)⟩
  · replace c4 := Bool.eq_false_iff.mpr c4
    subst c4
    have H1 : (some false) = some r := by rw [if_neg (show ¬ (false = true) by decide)] at H; exact H
    clear H
    have H := H1
    clear H1
    obtain rfl := Option.some.inj H
    go_enter Tryd.func85, Tryd.ntmps85
    go_wp2_with (first | ((with_reducible refine gate_callee (f := 102) rfl ?_); refine goesL_ (some 8) rfl rfl Tryd.func102 (by kernel_rfl) rfl #[.int .i64 (a0.size : Int), .int .i64 1, .int .i64 a1] rfl (by (try simp only [List.map_toArray, List.map_cons, List.map_nil]); first | done | rfl | (simp only [List.length_drop, List.length_take]; rfl)) ?_; (with_reducible refine (impl_within.calls (a0.size : Int) 1 a1 false _ A3.out).mono ?_); rintro e w' ⟨rfl, ⟨nd, rfl⟩⟩; refine ⟨_, rfl, ?_⟩))
    go_ret
    exact ⟨by first | rfl | (simp [errW_none, errW_some] <;> rfl) | (simp [*, errW_none, errW_some] <;> rfl), by repeat (first | (with_reducible first | exact HB.out | apply below_alloc | apply pw_below_drewN | apply below_drew1) | exact HB.out)⟩

/-! ### impl_IsRing: function 49 -/
def impl_IsRing.f (a0 : ByteArray) : Option (Bool) := (impl_isLineOf.f a0 9).bind fun t117 => (if t117 = true then (some (decide ((a0.size : Int) ≥ 3))) else (some false))
set_option maxHeartbeats 8000000 in
set_option maxRecDepth 100000 in
theorem impl_IsRing.calls (a0 : ByteArray) (r : Bool) (w : World) (h : impl_IsRing.f a0 = some r) :
    Calls Tryd.prog 49 #[.string a0] w fun e w' => e = .returned (.bool r) ∧ Below w.heap.size w w' := by
  have HB := Aside0.mk (Below.refl w.heap.size w)
  have H : ((impl_isLineOf.f a0 9).bind fun t117 => (if t117 = true then (some (decide ((a0.size : Int) ≥ 3))) else (some false))) = some r := h
  clear h
  replace H := Option.bind_eq_some_iff.mp H
  obtain ⟨t117, A20, H⟩ := H
  replace H : (if t117 = true then (some (decide ((a0.size : Int) ≥ 3))) else (some false)) = some r := H
  have A2 := Aside0.mk A20
  clear A20
  by_cases c3 : t117 = true
  · subst c3
    have H1 : (some (decide ((a0.size : Int) ≥ 3))) = some r := by rw [if_pos rfl] at H; exact H
    clear H
    have H := H1
    clear H1
    obtain rfl := Option.some.inj H
    go_enter Tryd.func49, Tryd.ntmps49
    go_wp2_with (first | ((with_reducible refine gate_callee (f := 85) rfl ?_); refine goesL_ (some 4) rfl rfl Tryd.func85 (by kernel_rfl) rfl #[.string a0, .int .i64 9] rfl (by (try simp only [List.map_toArray, List.map_cons, List.map_nil]); first | done | rfl | (simp only [List.length_drop, List.length_take]; rfl)) ?_; (with_reducible refine (impl_isLineOf.calls a0 9 true _ A2.out).mono ?_); rintro e w4 ⟨rfl, hb⟩; refine ⟨_, rfl, ?_⟩; have n0_ := Aside0.mk (below_step (by repeat (first | (with_reducible first | exact HB.out | apply below_alloc | apply pw_below_drewN | apply below_drew1) | exact HB.out)) hb); clear HB; have HB := n0_; clear n0_; (try clear hb); (try clear hb2); (try clear hk); (try clear hi)))
    go_ret
    exact ⟨by first | rfl | (simp [errW_none, errW_some] <;> rfl) | (simp [*, errW_none, errW_some] <;> rfl), by repeat (first | (with_reducible first | exact HB.out | apply below_alloc | apply pw_below_drewN | apply below_drew1) | exact HB.out)⟩
  · replace c3 := Bool.eq_false_iff.mpr c3
    subst c3
    have H1 : (some false) = some r := by rw [if_neg (show ¬ (false = true) by decide)] at H; exact H
    clear H
    have H := H1
    clear H1
    obtain rfl := Option.some.inj H
    go_enter Tryd.func49, Tryd.ntmps49
    go_wp2_with (first | ((with_reducible refine gate_callee (f := 85) rfl ?_); refine goesL_ (some 4) rfl rfl Tryd.func85 (by kernel_rfl) rfl #[.string a0, .int .i64 9] rfl (by (try simp only [List.map_toArray, List.map_cons, List.map_nil]); first | done | rfl | (simp only [List.length_drop, List.length_take]; rfl)) ?_; (with_reducible refine (impl_isLineOf.calls a0 9 false _ A2.out).mono ?_); rintro e w5 ⟨rfl, hb⟩; refine ⟨_, rfl, ?_⟩; have n0_ := Aside0.mk (below_step (by repeat (first | (with_reducible first | exact HB.out | apply below_alloc | apply pw_below_drewN | apply below_drew1) | exact HB.out)) hb); clear HB; have HB := n0_; clear n0_; (try clear hb); (try clear hb2); (try clear hk); (try clear hi)))
    go_ret
    exact ⟨by first | rfl | (simp [errW_none, errW_some] <;> rfl) | (simp [*, errW_none, errW_some] <;> rfl), by repeat (first | (with_reducible first | exact HB.out | apply below_alloc | apply pw_below_drewN | apply below_drew1) | exact HB.out)⟩

/-! ### impl_ringMoves: function 53 -/
def impl_ringMoves.l0 : Nat → ByteArray → List (S83) → Int → Int → Int → Option ((List (S83)))
  | 0, _, _, _, _, _ => none
  | k + 1, x0, x3, x4, x12, x13 => if x13 < x12 then (if 0 ≤ x13 then (if x13 < (x0.size : Int) then ((impl_stepOf.f (bt x0 x13)).bind fun t121 => (if x4 = 0 then (none) else (if t121 = 0 then (impl_ringMoves.l0 k x0 x3 x4 x12 (wrap64 (x13 + 1))) else (if 0 ≤ (Int.tmod (wrap64 ((wrap64 (x13 + t121)) + x4)) x4) then (if (Int.tmod (wrap64 ((wrap64 (x13 + t121)) + x4)) x4) < (x0.size : Int) then (if (bt x0 (Int.tmod (wrap64 ((wrap64 (x13 + t121)) + x4)) x4)) = 46 then (if x3.length < 8796093022208 then (impl_ringMoves.l0 k x0 (x3 ++ [(⟨x13, Int.tmod (wrap64 ((wrap64 (x13 + t121)) + x4)) x4⟩ : S83)]) x4 x12 (wrap64 (x13 + 1))) else (none)) else ((impl_other.f (bt x0 x13)).bind fun t125 => (if (bt x0 (Int.tmod (wrap64 ((wrap64 (x13 + t121)) + x4)) x4)) = t125 then (if 0 ≤ (Int.tmod (wrap64 ((wrap64 (x13 + (wrap64 (2 * t121)))) + (wrap64 (2 * x4)))) x4) then (if (Int.tmod (wrap64 ((wrap64 (x13 + (wrap64 (2 * t121)))) + (wrap64 (2 * x4)))) x4) < (x0.size : Int) then (if (bt x0 (Int.tmod (wrap64 ((wrap64 (x13 + (wrap64 (2 * t121)))) + (wrap64 (2 * x4)))) x4)) = 46 then (if x3.length < 8796093022208 then (impl_ringMoves.l0 k x0 (x3 ++ [(⟨x13, Int.tmod (wrap64 ((wrap64 (x13 + (wrap64 (2 * t121)))) + (wrap64 (2 * x4)))) x4⟩ : S83)]) x4 x12 (wrap64 (x13 + 1))) else (none)) else (impl_ringMoves.l0 k x0 x3 x4 x12 (wrap64 (x13 + 1)))) else (none)) else (none)) else (impl_ringMoves.l0 k x0 x3 x4 x12 (wrap64 (x13 + 1)))))) else (none)) else (none))))) else (none)) else (none)) else (some x3)
def impl_ringMoves.f (k : Nat) (a0 : ByteArray) : Option ((List (S83))) := impl_ringMoves.l0 k a0 (([] : List (S83))) (a0.size : Int) (a0.size : Int) 0
theorem impl_ringMoves.mono_l : ∀ k, (∀ y0 y1 y2 y3 y4, LeO (impl_ringMoves.l0 k y0 y1 y2 y3 y4) (impl_ringMoves.l0 (k + 1) y0 y1 y2 y3 y4))
  | 0 => fun _ _ _ _ _ r h => by simp [impl_ringMoves.l0] at h
  | k + 1 => by
    have ih0 := impl_ringMoves.mono_l k
    · intro y0 y1 y2 y3 y4
      unfold impl_ringMoves.l0
      repeat' first
      | (with_reducible exact ih0 _ _ _ _ _)
      | (with_reducible exact LeO.refl _)
      | (with_reducible exact LeO.none _)
      | (with_reducible refine LeO.ite ?_ ?_)
      | (with_reducible refine LeO.bind ?_ (fun _ => ?_))
      | exact ih0 _ _ _ _ _
      | exact LeO.none _
      | refine LeO.ite ?_ ?_
      | refine LeO.bind ?_ (fun _ => ?_)
theorem impl_ringMoves.mono : ∀ a0 k, LeO (impl_ringMoves.f k a0) (impl_ringMoves.f (k + 1) a0) := by
  intro a0 k
  have ih0 := impl_ringMoves.mono_l k
  unfold impl_ringMoves.f
  repeat' first
      | (with_reducible exact ih0 _ _ _ _ _)
      | (with_reducible exact LeO.refl _)
      | (with_reducible exact LeO.none _)
      | (with_reducible refine LeO.ite ?_ ?_)
      | (with_reducible refine LeO.bind ?_ (fun _ => ?_))
      | exact ih0 _ _ _ _ _
      | exact LeO.none _
      | refine LeO.ite ?_ ?_
      | refine LeO.bind ?_ (fun _ => ?_)
set_option maxHeartbeats 8000000 in
set_option maxRecDepth 100000 in
theorem impl_ringMoves.calls (k : Nat) (a0 : ByteArray) (r : List (S83)) (w : World) (h : impl_ringMoves.f k a0 = some r) :
    Calls Tryd.prog 53 #[.string a0] w fun e w' => ∃ v0_ : Value, e = .returned (v0_) ∧ Kd.R k83 83 w' w.heap.size (fun _ => True) v0_ r ∧ Below w.heap.size w w' := by
  have hu83 := Tryd.underlying83
  have HB := Aside0.mk (Below.refl w.heap.size w)
  have H : (impl_ringMoves.l0 k a0 (([] : List (S83))) (a0.size : Int) (a0.size : Int) 0) = some r := h
  clear h
  obtain ⟨y118, hy118⟩ : ∃ y_ : List (S83), y_ = (([] : List (S83))) := ⟨_, rfl⟩
  replace H : (impl_ringMoves.l0 k a0 y118 (a0.size : Int) (a0.size : Int) 0) = some r := by first | (rw [hy118]; with_reducible exact H) | (have H2_ := (Option.bind_some _ _).symm.trans H; rw [hy118]; with_reducible exact H2_) | (have H2_ := (Option.bind_some _ _).symm.trans H; with_reducible exact H2_) | with_reducible exact H | (rw [hy118]; exact H) | exact H
  have Ny118 := Aside0.mk hy118
  clear hy118
  have H' := Aside0.mk H
  clear H
  go_enter Tryd.func53, Tryd.ntmps53
  go_wp2_with (first | ((with_reducible refine gate_dst (N := 9) rfl ?_); refine Kd.R_lit k83 _ 83 ?hg (N := 9) ?hd (xs := ([] : List (S83))) (inner := []) (ok := fun _ => True) (okp := fun _ => True) ?hr ?hp (fun _ hk => hk) trivial (Below.refl _ _) (Nat.le_refl _) (by simp) ?_; (case hd => rfl); (case hg => rfl); (case hr => first | (go_simp; done) | (go_simp; rfl)); (case hp => exact (Reps.none _ _)); intro v119 w2 ho3 hb hg_ hnew_; clear hg_ hnew_; (first | rw [← Ny118.out] at ho3 | (simp only [Int.reduceToNat] at ho3; rw [← Ny118.out] at ho3)); have n0_ := Aside0.mk (Kd.R_lower ho3 (below_size (by repeat (first | (with_reducible first | exact HB.out | apply below_alloc | apply pw_below_drewN | apply below_drew1) | exact HB.out)))); have n1_ := Aside0.mk (below_step (by repeat (first | (with_reducible first | exact HB.out | apply below_alloc | apply pw_below_drewN | apply below_drew1) | exact HB.out)) hb); clear HB; have HO120 := n0_; have HB := n1_; clear n0_ n1_; clear hb ho3))
  repeat (go_quiet (first | ((with_reducible refine gate_dst (N := 9) rfl ?_); refine Kd.R_lit k83 _ 83 ?hg (N := 9) ?hd (xs := ([] : List (S83))) (inner := []) (ok := fun _ => True) (okp := fun _ => True) ?hr ?hp (fun _ hk => hk) trivial (Below.refl _ _) (Nat.le_refl _) (by simp) ?_; (case hd => rfl); (case hg => rfl); (case hr => first | (go_simp; done) | (go_simp; rfl)); (case hp => exact (Reps.none _ _)); intro v119 w2 ho3 hb hg_ hnew_; clear hg_ hnew_; (first | rw [← Ny118.out] at ho3 | (simp only [Int.reduceToNat] at ho3; rw [← Ny118.out] at ho3)); have n0_ := Aside0.mk (Kd.R_lower ho3 (below_size (by repeat (first | (with_reducible first | exact HB.out | apply below_alloc | apply pw_below_drewN | apply below_drew1) | exact HB.out)))); have n1_ := Aside0.mk (below_step (by repeat (first | (with_reducible first | exact HB.out | apply below_alloc | apply pw_below_drewN | apply below_drew1) | exact HB.out)) hb); clear HB; have HO120 := n0_; have HB := n1_; clear n0_ n1_; clear hb ho3)); try go_wp2_with (first | ((with_reducible refine gate_dst (N := 9) rfl ?_); refine Kd.R_lit k83 _ 83 ?hg (N := 9) ?hd (xs := ([] : List (S83))) (inner := []) (ok := fun _ => True) (okp := fun _ => True) ?hr ?hp (fun _ hk => hk) trivial (Below.refl _ _) (Nat.le_refl _) (by simp) ?_; (case hd => rfl); (case hg => rfl); (case hr => first | (go_simp; done) | (go_simp; rfl)); (case hp => exact (Reps.none _ _)); intro v119 w2 ho3 hb hg_ hnew_; clear hg_ hnew_; (first | rw [← Ny118.out] at ho3 | (simp only [Int.reduceToNat] at ho3; rw [← Ny118.out] at ho3)); have n0_ := Aside0.mk (Kd.R_lower ho3 (below_size (by repeat (first | (with_reducible first | exact HB.out | apply below_alloc | apply pw_below_drewN | apply below_drew1) | exact HB.out)))); have n1_ := Aside0.mk (below_step (by repeat (first | (with_reducible first | exact HB.out | apply below_alloc | apply pw_below_drewN | apply below_drew1) | exact HB.out)) hb); clear HB; have HO120 := n0_; have HB := n1_; clear n0_ n1_; clear hb ho3)))
  go_loopg [3, 13] k (fun kq v3 v13 w' => ∃ (x3_1 : List (S83)) (x13_1 : Int), v13 = .int .i64 x13_1 ∧ Aside0 (impl_ringMoves.l0 kq a0 x3_1 (a0.size : Int) (a0.size : Int) x13_1 = some r) ∧ Aside0 (kq ≤ k) ∧ Aside0 (Kd.R k83 83 w' w.heap.size (fun _ => True) v3 x3_1) ∧ Aside0 (Below w.heap.size w w'))
  case atStart => exact ⟨(y118), (0), (by first | rfl | (simp; done) | (simp [*]; done)), H', ⟨Nat.le_refl _⟩, ⟨by (with_reducible repeat (first | apply Kd.R_alloc | apply Kd.R_drewN | apply Kd.R_drew)); exact HO120.out⟩, ⟨by repeat (first | (with_reducible first | exact HB.out | apply below_alloc | apply pw_below_drewN | apply below_drew1) | exact HB.out)⟩⟩
  case round =>
    clear H'
    try clear p2
    obtain ⟨x3_1, x13_1, rfl, HA, HK1, HO_3, HB⟩ := hrel
    cases gk with
    | zero => exact absurd HA.out (by simp [impl_ringMoves.l0])
    | succ k1 =>
      have H := HA.out
      clear HA
      simp only [impl_ringMoves.l0] at H
      by_cases c4 : x13_1 < (a0.size : Int)
      · rw [if_pos c4] at H
        have c4b0 : decide (x13_1 < (a0.size : Int)) = true := decide_eq_true c4
        clear c4
        by_cases c5 : 0 ≤ x13_1
        · rw [if_pos c5] at H
          have c5b0 : decide (0 ≤ x13_1) = true := decide_eq_true c5
          clear c5
          by_cases c6 : x13_1 < (a0.size : Int)
          · rw [if_pos c6] at H
            have c6b0 : decide (x13_1 < (a0.size : Int)) = true := decide_eq_true c6
            clear c6
            replace H := Option.bind_eq_some_iff.mp H
            obtain ⟨t121, A80, H⟩ := H
            replace H : (if (a0.size : Int) = 0 then (none) else (if t121 = 0 then (impl_ringMoves.l0 k1 a0 x3_1 (a0.size : Int) (a0.size : Int) (wrap64 (x13_1 + 1))) else (if 0 ≤ (Int.tmod (wrap64 ((wrap64 (x13_1 + t121)) + (a0.size : Int))) (a0.size : Int)) then (if (Int.tmod (wrap64 ((wrap64 (x13_1 + t121)) + (a0.size : Int))) (a0.size : Int)) < (a0.size : Int) then (if (bt a0 (Int.tmod (wrap64 ((wrap64 (x13_1 + t121)) + (a0.size : Int))) (a0.size : Int))) = 46 then (if x3_1.length < 8796093022208 then (impl_ringMoves.l0 k1 a0 (x3_1 ++ [(⟨x13_1, Int.tmod (wrap64 ((wrap64 (x13_1 + t121)) + (a0.size : Int))) (a0.size : Int)⟩ : S83)]) (a0.size : Int) (a0.size : Int) (wrap64 (x13_1 + 1))) else (none)) else ((impl_other.f (bt a0 x13_1)).bind fun t125 => (if (bt a0 (Int.tmod (wrap64 ((wrap64 (x13_1 + t121)) + (a0.size : Int))) (a0.size : Int))) = t125 then (if 0 ≤ (Int.tmod (wrap64 ((wrap64 (x13_1 + (wrap64 (2 * t121)))) + (wrap64 (2 * (a0.size : Int))))) (a0.size : Int)) then (if (Int.tmod (wrap64 ((wrap64 (x13_1 + (wrap64 (2 * t121)))) + (wrap64 (2 * (a0.size : Int))))) (a0.size : Int)) < (a0.size : Int) then (if (bt a0 (Int.tmod (wrap64 ((wrap64 (x13_1 + (wrap64 (2 * t121)))) + (wrap64 (2 * (a0.size : Int))))) (a0.size : Int))) = 46 then (if x3_1.length < 8796093022208 then (impl_ringMoves.l0 k1 a0 (x3_1 ++ [(⟨x13_1, Int.tmod (wrap64 ((wrap64 (x13_1 + (wrap64 (2 * t121)))) + (wrap64 (2 * (a0.size : Int))))) (a0.size : Int)⟩ : S83)]) (a0.size : Int) (a0.size : Int) (wrap64 (x13_1 + 1))) else (none)) else (impl_ringMoves.l0 k1 a0 x3_1 (a0.size : Int) (a0.size : Int) (wrap64 (x13_1 + 1)))) else (none)) else (none)) else (impl_ringMoves.l0 k1 a0 x3_1 (a0.size : Int) (a0.size : Int) (wrap64 (x13_1 + 1)))))) else (none)) else (none)))) = some r := H
            have A8 := Aside0.mk A80
            clear A80
            by_cases c9 : (a0.size : Int) = 0
            · rw [if_pos c9] at H
              exact absurd H (by simp)
            · rw [if_neg c9] at H
              have c9b0 : ((a0.size : Int) == 0) = false := beq_eq_false_iff_ne.mpr c9
              have c9b1 : ((a0.size : Int) != 0) = true := bne_iff_ne.mpr c9
              by_cases c10 : t121 = 0
              · rw [if_pos c10] at H
                have c10b0 : (t121 == 0) = true := beq_iff_eq.mpr c10
                have c10b1 : (t121 != 0) = false := bne_eq_false_iff_eq.mpr c10
                clear c10
                have H' := Aside0.mk H
                clear H
                have p7 : 0 ≤ (x13_1 : Int) := of_decide_eq_true (by first | (with_reducible assumption) | assumption)
                have q7 : x13_1 < (a0.size : Int) := of_decide_eq_true (by first | (with_reducible assumption) | assumption)
                have hx7 := bt_at a0 x13_1
                replace p7 := eq_true p7
                replace q7 := eq_true q7
                go_wp2_with (first | (go_at_call 89; (with_reducible refine (impl_stepOf.calls (bt a0 x13_1) t121 _ A8.out).mono ?_); rintro e w' ⟨rfl, ⟨nd, rfl⟩⟩; (try first | exact ⟨rfl, _, World.drewN_drewN _ _ _⟩ | exact ⟨rfl, _, Eq.trans (World.drewN_drewN _ _ _) (congrArg (World.drewN _) (Nat.add_assoc _ _ _))⟩)))
                repeat (go_quiet (first | (go_at_call 89; (with_reducible refine (impl_stepOf.calls (bt a0 x13_1) t121 _ A8.out).mono ?_); rintro e w' ⟨rfl, ⟨nd, rfl⟩⟩; (try first | exact ⟨rfl, _, World.drewN_drewN _ _ _⟩ | exact ⟨rfl, _, Eq.trans (World.drewN_drewN _ _ _) (congrArg (World.drewN _) (Nat.add_assoc _ _ _))⟩))); try go_wp2_with (first | (go_at_call 89; (with_reducible refine (impl_stepOf.calls (bt a0 x13_1) t121 _ A8.out).mono ?_); rintro e w' ⟨rfl, ⟨nd, rfl⟩⟩; (try first | exact ⟨rfl, _, World.drewN_drewN _ _ _⟩ | exact ⟨rfl, _, Eq.trans (World.drewN_drewN _ _ _) (congrArg (World.drewN _) (Nat.add_assoc _ _ _))⟩))))
                go_roundg k1
                case measure => have := HK1.out; omega
                case rel => exact ⟨(x3_1), (wrap64 (x13_1 + 1)), (by first | rfl | (simp; done) | (simp [*]; done)), H', ⟨by have := HK1.out; omega⟩, ⟨by (with_reducible repeat (first | apply Kd.R_alloc | apply Kd.R_drewN | apply Kd.R_drew)); exact HO_3.out⟩, ⟨by repeat (first | (with_reducible first | exact HB.out | apply below_alloc | apply pw_below_drewN | apply below_drew1) | exact HB.out)⟩⟩
              · rw [if_neg c10] at H
                have c10b0 : (t121 == 0) = false := beq_eq_false_iff_ne.mpr c10
                have c10b1 : (t121 != 0) = true := bne_iff_ne.mpr c10
                obtain ⟨ji11, hji11⟩ : ∃ j_ : Int, (Int.tmod (wrap64 ((wrap64 (x13_1 + t121)) + (a0.size : Int))) (a0.size : Int)) = j_ := ⟨_, rfl⟩
                replace H : (if 0 ≤ (ji11) then (if (ji11) < (a0.size : Int) then (if (bt a0 (ji11)) = 46 then (if x3_1.length < 8796093022208 then (impl_ringMoves.l0 k1 a0 (x3_1 ++ [(⟨x13_1, ji11⟩ : S83)]) (a0.size : Int) (a0.size : Int) (wrap64 (x13_1 + 1))) else (none)) else ((impl_other.f (bt a0 x13_1)).bind fun t125 => (if (bt a0 (ji11)) = t125 then (if 0 ≤ (Int.tmod (wrap64 ((wrap64 (x13_1 + (wrap64 (2 * t121)))) + (wrap64 (2 * (a0.size : Int))))) (a0.size : Int)) then (if (Int.tmod (wrap64 ((wrap64 (x13_1 + (wrap64 (2 * t121)))) + (wrap64 (2 * (a0.size : Int))))) (a0.size : Int)) < (a0.size : Int) then (if (bt a0 (Int.tmod (wrap64 ((wrap64 (x13_1 + (wrap64 (2 * t121)))) + (wrap64 (2 * (a0.size : Int))))) (a0.size : Int))) = 46 then (if x3_1.length < 8796093022208 then (impl_ringMoves.l0 k1 a0 (x3_1 ++ [(⟨x13_1, Int.tmod (wrap64 ((wrap64 (x13_1 + (wrap64 (2 * t121)))) + (wrap64 (2 * (a0.size : Int))))) (a0.size : Int)⟩ : S83)]) (a0.size : Int) (a0.size : Int) (wrap64 (x13_1 + 1))) else (none)) else (impl_ringMoves.l0 k1 a0 x3_1 (a0.size : Int) (a0.size : Int) (wrap64 (x13_1 + 1)))) else (none)) else (none)) else (impl_ringMoves.l0 k1 a0 x3_1 (a0.size : Int) (a0.size : Int) (wrap64 (x13_1 + 1)))))) else (none)) else (none)) = some r := by first | (rw [hji11] at H; exact H) | (simp only [hji11] at H ⊢; exact H)
                (try rw [hji11] at A8)
                by_cases c12 : 0 ≤ (ji11)
                · rw [if_pos c12] at H
                  have c12b0 : decide (0 ≤ (ji11)) = true := decide_eq_true c12
                  clear c12
                  by_cases c13 : (ji11) < (a0.size : Int)
                  · rw [if_pos c13] at H
                    have c13b0 : decide ((ji11) < (a0.size : Int)) = true := decide_eq_true c13
                    clear c13
                    by_cases c15 : (bt a0 (ji11)) = 46
                    · rw [if_pos c15] at H
                      have c15b0 : ((bt a0 (ji11)) == 46) = true := beq_iff_eq.mpr c15
                      have c15b1 : ((bt a0 (ji11)) != 46) = false := bne_eq_false_iff_eq.mpr c15
                      clear c15
                      by_cases c16 : x3_1.length < 8796093022208
                      · rw [if_pos c16] at H
                        have LMc16 := Aside0.mk c16
                        clear c16
                        obtain ⟨y122, hy122⟩ : ∃ y_ : List (S83), y_ = (x3_1 ++ [(⟨x13_1, ji11⟩ : S83)]) := ⟨_, rfl⟩
                        replace H : (impl_ringMoves.l0 k1 a0 y122 (a0.size : Int) (a0.size : Int) (wrap64 (x13_1 + 1))) = some r := by first | (rw [hy122]; with_reducible exact H) | (have H2_ := (Option.bind_some _ _).symm.trans H; rw [hy122]; with_reducible exact H2_) | (have H2_ := (Option.bind_some _ _).symm.trans H; with_reducible exact H2_) | with_reducible exact H | (rw [hy122]; exact H) | exact H
                        have Ny122 := Aside0.mk hy122
                        clear hy122
                        have H' := Aside0.mk H
                        clear H
                        have p7 : 0 ≤ (x13_1 : Int) := of_decide_eq_true (by first | (with_reducible assumption) | assumption)
                        have q7 : x13_1 < (a0.size : Int) := of_decide_eq_true (by first | (with_reducible assumption) | assumption)
                        have hx7 := bt_at a0 x13_1
                        replace p7 := eq_true p7
                        replace q7 := eq_true q7
                        go_wp2_with (first | (go_at_call 89; (with_reducible refine (impl_stepOf.calls (bt a0 x13_1) t121 _ A8.out).mono ?_); rintro e w' ⟨rfl, ⟨nd, rfl⟩⟩; (try first | exact ⟨rfl, _, World.drewN_drewN _ _ _⟩ | exact ⟨rfl, _, Eq.trans (World.drewN_drewN _ _ _) (congrArg (World.drewN _) (Nat.add_assoc _ _ _))⟩); have p14 : 0 ≤ ((ji11) : Int) := of_decide_eq_true (by first | (with_reducible assumption) | assumption); have q14 : (ji11) < (a0.size : Int) := of_decide_eq_true (by first | (with_reducible assumption) | assumption); have hx14 := bt_at a0 (ji11); replace p14 := eq_true p14; replace q14 := eq_true q14) | ((with_reducible refine gate_builtin (b := .append) (xs := #[.tmp 44, .tmp 48]) rfl ?_); at_builtin; refine Kd.R_append k83 (w0 := w) w.heap.size rfl (.tmp 44) (.tmp 48) 46 83 (.agg #[(.int .i64 0), (.int .i64 0)]) 16 rfl Tryd.underlying46 info83 rfl (by decide) (by omega) u3 x3_1 (⟨x13_1, ji11⟩ : S83) [.int .i64 x13_1, .int .i64 ji11] (fun _ => True) (fun _ => False) rfl rfl ?aP (fun _ hk => hk.elim) ?aF ?aO ?aB ?aS ?aL ?_; (case aP => exact k83_mkM _ _ _ (⟨x13_1, ji11⟩ : S83)); (case aB => exact (by repeat (first | (with_reducible first | exact HB.out | apply below_alloc | apply pw_below_drewN | apply below_drew1) | exact HB.out))); (case aF => exact (fun _ _ => trivial)); (case aO => exact (by (with_reducible repeat (first | apply Kd.R_alloc | apply Kd.R_drewN | apply Kd.R_drew)); exact HO_3.out)); (case aS => exact (below_size (by repeat (first | (with_reducible first | exact HB.out | apply below_alloc | apply pw_below_drewN | apply below_drew1) | exact HB.out)))); (case aL => have := LMc16.out; omega); intro v123 w17 ho hb hg hat; rw [← Ny122.out] at ho; have n0_ := Aside0.mk (hb); have n1_ := Aside0.mk (ho); clear HB; clear HO_3; have HB := n0_; have HO124 := n1_; clear n0_ n1_; clear ho hb hg hat))
                        repeat (go_quiet (first | (go_at_call 89; (with_reducible refine (impl_stepOf.calls (bt a0 x13_1) t121 _ A8.out).mono ?_); rintro e w' ⟨rfl, ⟨nd, rfl⟩⟩; (try first | exact ⟨rfl, _, World.drewN_drewN _ _ _⟩ | exact ⟨rfl, _, Eq.trans (World.drewN_drewN _ _ _) (congrArg (World.drewN _) (Nat.add_assoc _ _ _))⟩); have p14 : 0 ≤ ((ji11) : Int) := of_decide_eq_true (by first | (with_reducible assumption) | assumption); have q14 : (ji11) < (a0.size : Int) := of_decide_eq_true (by first | (with_reducible assumption) | assumption); have hx14 := bt_at a0 (ji11); replace p14 := eq_true p14; replace q14 := eq_true q14) | ((with_reducible refine gate_builtin (b := .append) (xs := #[.tmp 44, .tmp 48]) rfl ?_); at_builtin; refine Kd.R_append k83 (w0 := w) w.heap.size rfl (.tmp 44) (.tmp 48) 46 83 (.agg #[(.int .i64 0), (.int .i64 0)]) 16 rfl Tryd.underlying46 info83 rfl (by decide) (by omega) u3 x3_1 (⟨x13_1, ji11⟩ : S83) [.int .i64 x13_1, .int .i64 ji11] (fun _ => True) (fun _ => False) rfl rfl ?aP (fun _ hk => hk.elim) ?aF ?aO ?aB ?aS ?aL ?_; (case aP => exact k83_mkM _ _ _ (⟨x13_1, ji11⟩ : S83)); (case aB => exact (by repeat (first | (with_reducible first | exact HB.out | apply below_alloc | apply pw_below_drewN | apply below_drew1) | exact HB.out))); (case aF => exact (fun _ _ => trivial)); (case aO => exact (by (with_reducible repeat (first | apply Kd.R_alloc | apply Kd.R_drewN | apply Kd.R_drew)); exact HO_3.out)); (case aS => exact (below_size (by repeat (first | (with_reducible first | exact HB.out | apply below_alloc | apply pw_below_drewN | apply below_drew1) | exact HB.out)))); (case aL => have := LMc16.out; omega); intro v123 w17 ho hb hg hat; rw [← Ny122.out] at ho; have n0_ := Aside0.mk (hb); have n1_ := Aside0.mk (ho); clear HB; clear HO_3; have HB := n0_; have HO124 := n1_; clear n0_ n1_; clear ho hb hg hat)); try go_wp2_with (first | (go_at_call 89; (with_reducible refine (impl_stepOf.calls (bt a0 x13_1) t121 _ A8.out).mono ?_); rintro e w' ⟨rfl, ⟨nd, rfl⟩⟩; (try first | exact ⟨rfl, _, World.drewN_drewN _ _ _⟩ | exact ⟨rfl, _, Eq.trans (World.drewN_drewN _ _ _) (congrArg (World.drewN _) (Nat.add_assoc _ _ _))⟩); have p14 : 0 ≤ ((ji11) : Int) := of_decide_eq_true (by first | (with_reducible assumption) | assumption); have q14 : (ji11) < (a0.size : Int) := of_decide_eq_true (by first | (with_reducible assumption) | assumption); have hx14 := bt_at a0 (ji11); replace p14 := eq_true p14; replace q14 := eq_true q14) | ((with_reducible refine gate_builtin (b := .append) (xs := #[.tmp 44, .tmp 48]) rfl ?_); at_builtin; refine Kd.R_append k83 (w0 := w) w.heap.size rfl (.tmp 44) (.tmp 48) 46 83 (.agg #[(.int .i64 0), (.int .i64 0)]) 16 rfl Tryd.underlying46 info83 rfl (by decide) (by omega) u3 x3_1 (⟨x13_1, ji11⟩ : S83) [.int .i64 x13_1, .int .i64 ji11] (fun _ => True) (fun _ => False) rfl rfl ?aP (fun _ hk => hk.elim) ?aF ?aO ?aB ?aS ?aL ?_; (case aP => exact k83_mkM _ _ _ (⟨x13_1, ji11⟩ : S83)); (case aB => exact (by repeat (first | (with_reducible first | exact HB.out | apply below_alloc | apply pw_below_drewN | apply below_drew1) | exact HB.out))); (case aF => exact (fun _ _ => trivial)); (case aO => exact (by (with_reducible repeat (first | apply Kd.R_alloc | apply Kd.R_drewN | apply Kd.R_drew)); exact HO_3.out)); (case aS => exact (below_size (by repeat (first | (with_reducible first | exact HB.out | apply below_alloc | apply pw_below_drewN | apply below_drew1) | exact HB.out)))); (case aL => have := LMc16.out; omega); intro v123 w17 ho hb hg hat; rw [← Ny122.out] at ho; have n0_ := Aside0.mk (hb); have n1_ := Aside0.mk (ho); clear HB; clear HO_3; have HB := n0_; have HO124 := n1_; clear n0_ n1_; clear ho hb hg hat)))
                        go_roundg k1
                        case measure => have := HK1.out; omega
                        case rel => exact ⟨(y122), (wrap64 (x13_1 + 1)), (by first | rfl | (simp; done) | (simp [*]; done)), H', ⟨by have := HK1.out; omega⟩, ⟨by (with_reducible repeat (first | apply Kd.R_alloc | apply Kd.R_drewN | apply Kd.R_drew)); exact HO124.out⟩, ⟨by repeat (first | (with_reducible first | exact HB.out | apply below_alloc | apply pw_below_drewN | apply below_drew1) | exact HB.out)⟩⟩
                      · rw [if_neg c16] at H
                        exact absurd H (by simp)
                    · rw [if_neg c15] at H
                      have c15b0 : ((bt a0 (ji11)) == 46) = false := beq_eq_false_iff_ne.mpr c15
                      have c15b1 : ((bt a0 (ji11)) != 46) = true := bne_iff_ne.mpr c15
                      replace H := Option.bind_eq_some_iff.mp H
                      obtain ⟨t125, A200, H⟩ := H
                      replace H : (if (bt a0 (ji11)) = t125 then (if 0 ≤ (Int.tmod (wrap64 ((wrap64 (x13_1 + (wrap64 (2 * t121)))) + (wrap64 (2 * (a0.size : Int))))) (a0.size : Int)) then (if (Int.tmod (wrap64 ((wrap64 (x13_1 + (wrap64 (2 * t121)))) + (wrap64 (2 * (a0.size : Int))))) (a0.size : Int)) < (a0.size : Int) then (if (bt a0 (Int.tmod (wrap64 ((wrap64 (x13_1 + (wrap64 (2 * t121)))) + (wrap64 (2 * (a0.size : Int))))) (a0.size : Int))) = 46 then (if x3_1.length < 8796093022208 then (impl_ringMoves.l0 k1 a0 (x3_1 ++ [(⟨x13_1, Int.tmod (wrap64 ((wrap64 (x13_1 + (wrap64 (2 * t121)))) + (wrap64 (2 * (a0.size : Int))))) (a0.size : Int)⟩ : S83)]) (a0.size : Int) (a0.size : Int) (wrap64 (x13_1 + 1))) else (none)) else (impl_ringMoves.l0 k1 a0 x3_1 (a0.size : Int) (a0.size : Int) (wrap64 (x13_1 + 1)))) else (none)) else (none)) else (impl_ringMoves.l0 k1 a0 x3_1 (a0.size : Int) (a0.size : Int) (wrap64 (x13_1 + 1)))) = some r := H
                      have A20 := Aside0.mk A200
                      clear A200
                      by_cases c21 : (bt a0 (ji11)) = t125
                      · rw [if_pos c21] at H
                        have c21b0 : ((bt a0 (ji11)) == t125) = true := beq_iff_eq.mpr c21
                        have c21b1 : ((bt a0 (ji11)) != t125) = false := bne_eq_false_iff_eq.mpr c21
                        clear c21
                        obtain ⟨ji22, hji22⟩ : ∃ j_ : Int, (Int.tmod (wrap64 ((wrap64 (x13_1 + (wrap64 (2 * t121)))) + (wrap64 (2 * (a0.size : Int))))) (a0.size : Int)) = j_ := ⟨_, rfl⟩
                        replace H : (if 0 ≤ (ji22) then (if (ji22) < (a0.size : Int) then (if (bt a0 (ji22)) = 46 then (if x3_1.length < 8796093022208 then (impl_ringMoves.l0 k1 a0 (x3_1 ++ [(⟨x13_1, ji22⟩ : S83)]) (a0.size : Int) (a0.size : Int) (wrap64 (x13_1 + 1))) else (none)) else (impl_ringMoves.l0 k1 a0 x3_1 (a0.size : Int) (a0.size : Int) (wrap64 (x13_1 + 1)))) else (none)) else (none)) = some r := by first | (rw [hji22] at H; exact H) | (simp only [hji22] at H ⊢; exact H)
                        (try rw [hji22] at A8)
                        (try rw [hji22] at A20)
                        by_cases c23 : 0 ≤ (ji22)
                        · rw [if_pos c23] at H
                          have c23b0 : decide (0 ≤ (ji22)) = true := decide_eq_true c23
                          clear c23
                          by_cases c24 : (ji22) < (a0.size : Int)
                          · rw [if_pos c24] at H
                            have c24b0 : decide ((ji22) < (a0.size : Int)) = true := decide_eq_true c24
                            clear c24
                            by_cases c26 : (bt a0 (ji22)) = 46
                            · rw [if_pos c26] at H
                              have c26b0 : ((bt a0 (ji22)) == 46) = true := beq_iff_eq.mpr c26
                              have c26b1 : ((bt a0 (ji22)) != 46) = false := bne_eq_false_iff_eq.mpr c26
                              clear c26
                              by_cases c27 : x3_1.length < 8796093022208
                              · rw [if_pos c27] at H
                                have LMc27 := Aside0.mk c27
                                clear c27
                                obtain ⟨y126, hy126⟩ : ∃ y_ : List (S83), y_ = (x3_1 ++ [(⟨x13_1, ji22⟩ : S83)]) := ⟨_, rfl⟩
                                replace H : (impl_ringMoves.l0 k1 a0 y126 (a0.size : Int) (a0.size : Int) (wrap64 (x13_1 + 1))) = some r := by first | (rw [hy126]; with_reducible exact H) | (have H2_ := (Option.bind_some _ _).symm.trans H; rw [hy126]; with_reducible exact H2_) | (have H2_ := (Option.bind_some _ _).symm.trans H; with_reducible exact H2_) | with_reducible exact H | (rw [hy126]; exact H) | exact H
                                have Ny126 := Aside0.mk hy126
                                clear hy126
                                have H' := Aside0.mk H
                                clear H
                                have p7 : 0 ≤ (x13_1 : Int) := of_decide_eq_true (by first | (with_reducible assumption) | assumption)
                                have q7 : x13_1 < (a0.size : Int) := of_decide_eq_true (by first | (with_reducible assumption) | assumption)
                                have hx7 := bt_at a0 x13_1
                                replace p7 := eq_true p7
                                replace q7 := eq_true q7
                                go_wp2_with (first | (go_at_call 89; (with_reducible refine (impl_stepOf.calls (bt a0 x13_1) t121 _ A8.out).mono ?_); rintro e w' ⟨rfl, ⟨nd, rfl⟩⟩; (try first | exact ⟨rfl, _, World.drewN_drewN _ _ _⟩ | exact ⟨rfl, _, Eq.trans (World.drewN_drewN _ _ _) (congrArg (World.drewN _) (Nat.add_assoc _ _ _))⟩); have p14 : 0 ≤ ((ji11) : Int) := of_decide_eq_true (by first | (with_reducible assumption) | assumption); have q14 : (ji11) < (a0.size : Int) := of_decide_eq_true (by first | (with_reducible assumption) | assumption); have hx14 := bt_at a0 (ji11); replace p14 := eq_true p14; replace q14 := eq_true q14; have p18 : 0 ≤ ((ji11) : Int) := of_decide_eq_true (by first | (with_reducible assumption) | assumption); have q18 : (ji11) < (a0.size : Int) := of_decide_eq_true (by first | (with_reducible assumption) | assumption); have hx18 := bt_at a0 (ji11); replace p18 := eq_true p18; replace q18 := eq_true q18; have p19 : 0 ≤ (x13_1 : Int) := of_decide_eq_true (by first | (with_reducible assumption) | assumption); have q19 : x13_1 < (a0.size : Int) := of_decide_eq_true (by first | (with_reducible assumption) | assumption); have hx19 := bt_at a0 x13_1; replace p19 := eq_true p19; replace q19 := eq_true q19) | (go_at_call 90; (with_reducible refine (impl_other.calls (bt a0 x13_1) t125 _ A20.out).mono ?_); rintro e w' ⟨rfl, ⟨nd, rfl⟩⟩; (try first | exact ⟨rfl, _, World.drewN_drewN _ _ _⟩ | exact ⟨rfl, _, Eq.trans (World.drewN_drewN _ _ _) (congrArg (World.drewN _) (Nat.add_assoc _ _ _))⟩); have p25 : 0 ≤ ((ji22) : Int) := of_decide_eq_true (by first | (with_reducible assumption) | assumption); have q25 : (ji22) < (a0.size : Int) := of_decide_eq_true (by first | (with_reducible assumption) | assumption); have hx25 := bt_at a0 (ji22); replace p25 := eq_true p25; replace q25 := eq_true q25) | ((with_reducible refine gate_builtin (b := .append) (xs := #[.tmp 65, .tmp 69]) rfl ?_); at_builtin; refine Kd.R_append k83 (w0 := w) w.heap.size rfl (.tmp 65) (.tmp 69) 46 83 (.agg #[(.int .i64 0), (.int .i64 0)]) 16 rfl Tryd.underlying46 info83 rfl (by decide) (by omega) u3 x3_1 (⟨x13_1, ji22⟩ : S83) [.int .i64 x13_1, .int .i64 ji22] (fun _ => True) (fun _ => False) rfl rfl ?aP (fun _ hk => hk.elim) ?aF ?aO ?aB ?aS ?aL ?_; (case aP => exact k83_mkM _ _ _ (⟨x13_1, ji22⟩ : S83)); (case aB => exact (by repeat (first | (with_reducible first | exact HB.out | apply below_alloc | apply pw_below_drewN | apply below_drew1) | exact HB.out))); (case aF => exact (fun _ _ => trivial)); (case aO => exact (by (with_reducible repeat (first | apply Kd.R_alloc | apply Kd.R_drewN | apply Kd.R_drew)); exact HO_3.out)); (case aS => exact (below_size (by repeat (first | (with_reducible first | exact HB.out | apply below_alloc | apply pw_below_drewN | apply below_drew1) | exact HB.out)))); (case aL => have := LMc27.out; omega); intro v127 w28 ho hb hg hat; rw [← Ny126.out] at ho; have n0_ := Aside0.mk (hb); have n1_ := Aside0.mk (ho); clear HB; clear HO_3; have HB := n0_; have HO128 := n1_; clear n0_ n1_; clear ho hb hg hat))
                                repeat (go_quiet (first | (go_at_call 89; (with_reducible refine (impl_stepOf.calls (bt a0 x13_1) t121 _ A8.out).mono ?_); rintro e w' ⟨rfl, ⟨nd, rfl⟩⟩; (try first | exact ⟨rfl, _, World.drewN_drewN _ _ _⟩ | exact ⟨rfl, _, Eq.trans (World.drewN_drewN _ _ _) (congrArg (World.drewN _) (Nat.add_assoc _ _ _))⟩); have p14 : 0 ≤ ((ji11) : Int) := of_decide_eq_true (by first | (with_reducible assumption) | assumption); have q14 : (ji11) < (a0.size : Int) := of_decide_eq_true (by first | (with_reducible assumption) | assumption); have hx14 := bt_at a0 (ji11); replace p14 := eq_true p14; replace q14 := eq_true q14; have p18 : 0 ≤ ((ji11) : Int) := of_decide_eq_true (by first | (with_reducible assumption) | assumption); have q18 : (ji11) < (a0.size : Int) := of_decide_eq_true (by first | (with_reducible assumption) | assumption); have hx18 := bt_at a0 (ji11); replace p18 := eq_true p18; replace q18 := eq_true q18; have p19 : 0 ≤ (x13_1 : Int) := of_decide_eq_true (by first | (with_reducible assumption) | assumption); have q19 : x13_1 < (a0.size : Int) := of_decide_eq_true (by first | (with_reducible assumption) | assumption); have hx19 := bt_at a0 x13_1; replace p19 := eq_true p19; replace q19 := eq_true q19) | (go_at_call 90; (with_reducible refine (impl_other.calls (bt a0 x13_1) t125 _ A20.out).mono ?_); rintro e w' ⟨rfl, ⟨nd, rfl⟩⟩; (try first | exact ⟨rfl, _, World.drewN_drewN _ _ _⟩ | exact ⟨rfl, _, Eq.trans (World.drewN_drewN _ _ _) (congrArg (World.drewN _) (Nat.add_assoc _ _ _))⟩); have p25 : 0 ≤ ((ji22) : Int) := of_decide_eq_true (by first | (with_reducible assumption) | assumption); have q25 : (ji22) < (a0.size : Int) := of_decide_eq_true (by first | (with_reducible assumption) | assumption); have hx25 := bt_at a0 (ji22); replace p25 := eq_true p25; replace q25 := eq_true q25) | ((with_reducible refine gate_builtin (b := .append) (xs := #[.tmp 65, .tmp 69]) rfl ?_); at_builtin; refine Kd.R_append k83 (w0 := w) w.heap.size rfl (.tmp 65) (.tmp 69) 46 83 (.agg #[(.int .i64 0), (.int .i64 0)]) 16 rfl Tryd.underlying46 info83 rfl (by decide) (by omega) u3 x3_1 (⟨x13_1, ji22⟩ : S83) [.int .i64 x13_1, .int .i64 ji22] (fun _ => True) (fun _ => False) rfl rfl ?aP (fun _ hk => hk.elim) ?aF ?aO ?aB ?aS ?aL ?_; (case aP => exact k83_mkM _ _ _ (⟨x13_1, ji22⟩ : S83)); (case aB => exact (by repeat (first | (with_reducible first | exact HB.out | apply below_alloc | apply pw_below_drewN | apply below_drew1) | exact HB.out))); (case aF => exact (fun _ _ => trivial)); (case aO => exact (by (with_reducible repeat (first | apply Kd.R_alloc | apply Kd.R_drewN | apply Kd.R_drew)); exact HO_3.out)); (case aS => exact (below_size (by repeat (first | (with_reducible first | exact HB.out | apply below_alloc | apply pw_below_drewN | apply below_drew1) | exact HB.out)))); (case aL => have := LMc27.out; omega); intro v127 w28 ho hb hg hat; rw [← Ny126.out] at ho; have n0_ := Aside0.mk (hb); have n1_ := Aside0.mk (ho); clear HB; clear HO_3; have HB := n0_; have HO128 := n1_; clear n0_ n1_; clear ho hb hg hat)); try go_wp2_with (first | (go_at_call 89; (with_reducible refine (impl_stepOf.calls (bt a0 x13_1) t121 _ A8.out).mono ?_); rintro e w' ⟨rfl, ⟨nd, rfl⟩⟩; (try first | exact ⟨rfl, _, World.drewN_drewN _ _ _⟩ | exact ⟨rfl, _, Eq.trans (World.drewN_drewN _ _ _) (congrArg (World.drewN _) (Nat.add_assoc _ _ _))⟩); have p14 : 0 ≤ ((ji11) : Int) := of_decide_eq_true (by first | (with_reducible assumption) | assumption); have q14 : (ji11) < (a0.size : Int) := of_decide_eq_true (by first | (with_reducible assumption) | assumption); have hx14 := bt_at a0 (ji11); replace p14 := eq_true p14; replace q14 := eq_true q14; have p18 : 0 ≤ ((ji11) : Int) := of_decide_eq_true (by first | (with_reducible assumption) | assumption); have q18 : (ji11) < (a0.size : Int) := of_decide_eq_true (by first | (with_reducible assumption) | assumption); have hx18 := bt_at a0 (ji11); replace p18 := eq_true p18; replace q18 := eq_true q18; have p19 : 0 ≤ (x13_1 : Int) := of_decide_eq_true (by first | (with_reducible assumption) | assumption); have q19 : x13_1 < (a0.size : Int) := of_decide_eq_true (by first | (with_reducible assumption) | assumption); have hx19 := bt_at a0 x13_1; replace p19 := eq_true p19; replace q19 := eq_true q19) | (go_at_call 90; (with_reducible refine (impl_other.calls (bt a0 x13_1) t125 _ A20.out).mono ?_); rintro e w' ⟨rfl, ⟨nd, rfl⟩⟩; (try first | exact ⟨rfl, _, World.drewN_drewN _ _ _⟩ | exact ⟨rfl, _, Eq.trans (World.drewN_drewN _ _ _) (congrArg (World.drewN _) (Nat.add_assoc _ _ _))⟩); have p25 : 0 ≤ ((ji22) : Int) := of_decide_eq_true (by first | (with_reducible assumption) | assumption); have q25 : (ji22) < (a0.size : Int) := of_decide_eq_true (by first | (with_reducible assumption) | assumption); have hx25 := bt_at a0 (ji22); replace p25 := eq_true p25; replace q25 := eq_true q25) | ((with_reducible refine gate_builtin (b := .append) (xs := #[.tmp 65, .tmp 69]) rfl ?_); at_builtin; refine Kd.R_append k83 (w0 := w) w.heap.size rfl (.tmp 65) (.tmp 69) 46 83 (.agg #[(.int .i64 0), (.int .i64 0)]) 16 rfl Tryd.underlying46 info83 rfl (by decide) (by omega) u3 x3_1 (⟨x13_1, ji22⟩ : S83) [.int .i64 x13_1, .int .i64 ji22] (fun _ => True) (fun _ => False) rfl rfl ?aP (fun _ hk => hk.elim) ?aF ?aO ?aB ?aS ?aL ?_; (case aP => exact k83_mkM _ _ _ (⟨x13_1, ji22⟩ : S83)); (case aB => exact (by repeat (first | (with_reducible first | exact HB.out | apply below_alloc | apply pw_below_drewN | apply below_drew1) | exact HB.out))); (case aF => exact (fun _ _ => trivial)); (case aO => exact (by (with_reducible repeat (first | apply Kd.R_alloc | apply Kd.R_drewN | apply Kd.R_drew)); exact HO_3.out)); (case aS => exact (below_size (by repeat (first | (with_reducible first | exact HB.out | apply below_alloc | apply pw_below_drewN | apply below_drew1) | exact HB.out)))); (case aL => have := LMc27.out; omega); intro v127 w28 ho hb hg hat; rw [← Ny126.out] at ho; have n0_ := Aside0.mk (hb); have n1_ := Aside0.mk (ho); clear HB; clear HO_3; have HB := n0_; have HO128 := n1_; clear n0_ n1_; clear ho hb hg hat)))
                                go_roundg k1
                                case measure => have := HK1.out; omega
                                case rel => exact ⟨(y126), (wrap64 (x13_1 + 1)), (by first | rfl | (simp; done) | (simp [*]; done)), H', ⟨by have := HK1.out; omega⟩, ⟨by (with_reducible repeat (first | apply Kd.R_alloc | apply Kd.R_drewN | apply Kd.R_drew)); exact HO128.out⟩, ⟨by repeat (first | (with_reducible first | exact HB.out | apply below_alloc | apply pw_below_drewN | apply below_drew1) | exact HB.out)⟩⟩
                              · rw [if_neg c27] at H
                                exact absurd H (by simp)
                            · rw [if_neg c26] at H
                              have c26b0 : ((bt a0 (ji22)) == 46) = false := beq_eq_false_iff_ne.mpr c26
                              have c26b1 : ((bt a0 (ji22)) != 46) = true := bne_iff_ne.mpr c26
                              have H' := Aside0.mk H
                              clear H
                              have p7 : 0 ≤ (x13_1 : Int) := of_decide_eq_true (by first | (with_reducible assumption) | assumption)
                              have q7 : x13_1 < (a0.size : Int) := of_decide_eq_true (by first | (with_reducible assumption) | assumption)
                              have hx7 := bt_at a0 x13_1
                              replace p7 := eq_true p7
                              replace q7 := eq_true q7
                              go_wp2_with (first | (go_at_call 89; (with_reducible refine (impl_stepOf.calls (bt a0 x13_1) t121 _ A8.out).mono ?_); rintro e w' ⟨rfl, ⟨nd, rfl⟩⟩; (try first | exact ⟨rfl, _, World.drewN_drewN _ _ _⟩ | exact ⟨rfl, _, Eq.trans (World.drewN_drewN _ _ _) (congrArg (World.drewN _) (Nat.add_assoc _ _ _))⟩); have p14 : 0 ≤ ((ji11) : Int) := of_decide_eq_true (by first | (with_reducible assumption) | assumption); have q14 : (ji11) < (a0.size : Int) := of_decide_eq_true (by first | (with_reducible assumption) | assumption); have hx14 := bt_at a0 (ji11); replace p14 := eq_true p14; replace q14 := eq_true q14; have p18 : 0 ≤ ((ji11) : Int) := of_decide_eq_true (by first | (with_reducible assumption) | assumption); have q18 : (ji11) < (a0.size : Int) := of_decide_eq_true (by first | (with_reducible assumption) | assumption); have hx18 := bt_at a0 (ji11); replace p18 := eq_true p18; replace q18 := eq_true q18; have p19 : 0 ≤ (x13_1 : Int) := of_decide_eq_true (by first | (with_reducible assumption) | assumption); have q19 : x13_1 < (a0.size : Int) := of_decide_eq_true (by first | (with_reducible assumption) | assumption); have hx19 := bt_at a0 x13_1; replace p19 := eq_true p19; replace q19 := eq_true q19) | (go_at_call 90; (with_reducible refine (impl_other.calls (bt a0 x13_1) t125 _ A20.out).mono ?_); rintro e w' ⟨rfl, ⟨nd, rfl⟩⟩; (try first | exact ⟨rfl, _, World.drewN_drewN _ _ _⟩ | exact ⟨rfl, _, Eq.trans (World.drewN_drewN _ _ _) (congrArg (World.drewN _) (Nat.add_assoc _ _ _))⟩); have p25 : 0 ≤ ((ji22) : Int) := of_decide_eq_true (by first | (with_reducible assumption) | assumption); have q25 : (ji22) < (a0.size : Int) := of_decide_eq_true (by first | (with_reducible assumption) | assumption); have hx25 := bt_at a0 (ji22); replace p25 := eq_true p25; replace q25 := eq_true q25))
                              repeat (go_quiet (first | (go_at_call 89; (with_reducible refine (impl_stepOf.calls (bt a0 x13_1) t121 _ A8.out).mono ?_); rintro e w' ⟨rfl, ⟨nd, rfl⟩⟩; (try first | exact ⟨rfl, _, World.drewN_drewN _ _ _⟩ | exact ⟨rfl, _, Eq.trans (World.drewN_drewN _ _ _) (congrArg (World.drewN _) (Nat.add_assoc _ _ _))⟩); have p14 : 0 ≤ ((ji11) : Int) := of_decide_eq_true (by first | (with_reducible assumption) | assumption); have q14 : (ji11) < (a0.size : Int) := of_decide_eq_true (by first | (with_reducible assumption) | assumption); have hx14 := bt_at a0 (ji11); replace p14 := eq_true p14; replace q14 := eq_true q14; have p18 : 0 ≤ ((ji11) : Int) := of_decide_eq_true (by first | (with_reducible assumption) | assumption); have q18 : (ji11) < (a0.size : Int) := of_decide_eq_true (by first | (with_reducible assumption) | assumption); have hx18 := bt_at a0 (ji11); replace p18 := eq_true p18; replace q18 := eq_true q18; have p19 : 0 ≤ (x13_1 : Int) := of_decide_eq_true (by first | (with_reducible assumption) | assumption); have q19 : x13_1 < (a0.size : Int) := of_decide_eq_true (by first | (with_reducible assumption) | assumption); have hx19 := bt_at a0 x13_1; replace p19 := eq_true p19; replace q19 := eq_true q19) | (go_at_call 90; (with_reducible refine (impl_other.calls (bt a0 x13_1) t125 _ A20.out).mono ?_); rintro e w' ⟨rfl, ⟨nd, rfl⟩⟩; (try first | exact ⟨rfl, _, World.drewN_drewN _ _ _⟩ | exact ⟨rfl, _, Eq.trans (World.drewN_drewN _ _ _) (congrArg (World.drewN _) (Nat.add_assoc _ _ _))⟩); have p25 : 0 ≤ ((ji22) : Int) := of_decide_eq_true (by first | (with_reducible assumption) | assumption); have q25 : (ji22) < (a0.size : Int) := of_decide_eq_true (by first | (with_reducible assumption) | assumption); have hx25 := bt_at a0 (ji22); replace p25 := eq_true p25; replace q25 := eq_true q25)); try go_wp2_with (first | (go_at_call 89; (with_reducible refine (impl_stepOf.calls (bt a0 x13_1) t121 _ A8.out).mono ?_); rintro e w' ⟨rfl, ⟨nd, rfl⟩⟩; (try first | exact ⟨rfl, _, World.drewN_drewN _ _ _⟩ | exact ⟨rfl, _, Eq.trans (World.drewN_drewN _ _ _) (congrArg (World.drewN _) (Nat.add_assoc _ _ _))⟩); have p14 : 0 ≤ ((ji11) : Int) := of_decide_eq_true (by first | (with_reducible assumption) | assumption); have q14 : (ji11) < (a0.size : Int) := of_decide_eq_true (by first | (with_reducible assumption) | assumption); have hx14 := bt_at a0 (ji11); replace p14 := eq_true p14; replace q14 := eq_true q14; have p18 : 0 ≤ ((ji11) : Int) := of_decide_eq_true (by first | (with_reducible assumption) | assumption); have q18 : (ji11) < (a0.size : Int) := of_decide_eq_true (by first | (with_reducible assumption) | assumption); have hx18 := bt_at a0 (ji11); replace p18 := eq_true p18; replace q18 := eq_true q18; have p19 : 0 ≤ (x13_1 : Int) := of_decide_eq_true (by first | (with_reducible assumption) | assumption); have q19 : x13_1 < (a0.size : Int) := of_decide_eq_true (by first | (with_reducible assumption) | assumption); have hx19 := bt_at a0 x13_1; replace p19 := eq_true p19; replace q19 := eq_true q19) | (go_at_call 90; (with_reducible refine (impl_other.calls (bt a0 x13_1) t125 _ A20.out).mono ?_); rintro e w' ⟨rfl, ⟨nd, rfl⟩⟩; (try first | exact ⟨rfl, _, World.drewN_drewN _ _ _⟩ | exact ⟨rfl, _, Eq.trans (World.drewN_drewN _ _ _) (congrArg (World.drewN _) (Nat.add_assoc _ _ _))⟩); have p25 : 0 ≤ ((ji22) : Int) := of_decide_eq_true (by first | (with_reducible assumption) | assumption); have q25 : (ji22) < (a0.size : Int) := of_decide_eq_true (by first | (with_reducible assumption) | assumption); have hx25 := bt_at a0 (ji22); replace p25 := eq_true p25; replace q25 := eq_true q25)))
                              go_roundg k1
                              case measure => have := HK1.out; omega
                              case rel => exact ⟨(x3_1), (wrap64 (x13_1 + 1)), (by first | rfl | (simp; done) | (simp [*]; done)), H', ⟨by have := HK1.out; omega⟩, ⟨by (with_reducible repeat (first | apply Kd.R_alloc | apply Kd.R_drewN | apply Kd.R_drew)); exact HO_3.out⟩, ⟨by repeat (first | (with_reducible first | exact HB.out | apply below_alloc | apply pw_below_drewN | apply below_drew1) | exact HB.out)⟩⟩
                          · rw [if_neg c24] at H
                            exact absurd H (by simp)
                        · rw [if_neg c23] at H
                          exact absurd H (by simp)
                      · rw [if_neg c21] at H
                        have c21b0 : ((bt a0 (ji11)) == t125) = false := beq_eq_false_iff_ne.mpr c21
                        have c21b1 : ((bt a0 (ji11)) != t125) = true := bne_iff_ne.mpr c21
                        have H' := Aside0.mk H
                        clear H
                        have p7 : 0 ≤ (x13_1 : Int) := of_decide_eq_true (by first | (with_reducible assumption) | assumption)
                        have q7 : x13_1 < (a0.size : Int) := of_decide_eq_true (by first | (with_reducible assumption) | assumption)
                        have hx7 := bt_at a0 x13_1
                        replace p7 := eq_true p7
                        replace q7 := eq_true q7
                        go_wp2_with (first | (go_at_call 89; (with_reducible refine (impl_stepOf.calls (bt a0 x13_1) t121 _ A8.out).mono ?_); rintro e w' ⟨rfl, ⟨nd, rfl⟩⟩; (try first | exact ⟨rfl, _, World.drewN_drewN _ _ _⟩ | exact ⟨rfl, _, Eq.trans (World.drewN_drewN _ _ _) (congrArg (World.drewN _) (Nat.add_assoc _ _ _))⟩); have p14 : 0 ≤ ((ji11) : Int) := of_decide_eq_true (by first | (with_reducible assumption) | assumption); have q14 : (ji11) < (a0.size : Int) := of_decide_eq_true (by first | (with_reducible assumption) | assumption); have hx14 := bt_at a0 (ji11); replace p14 := eq_true p14; replace q14 := eq_true q14; have p18 : 0 ≤ ((ji11) : Int) := of_decide_eq_true (by first | (with_reducible assumption) | assumption); have q18 : (ji11) < (a0.size : Int) := of_decide_eq_true (by first | (with_reducible assumption) | assumption); have hx18 := bt_at a0 (ji11); replace p18 := eq_true p18; replace q18 := eq_true q18; have p19 : 0 ≤ (x13_1 : Int) := of_decide_eq_true (by first | (with_reducible assumption) | assumption); have q19 : x13_1 < (a0.size : Int) := of_decide_eq_true (by first | (with_reducible assumption) | assumption); have hx19 := bt_at a0 x13_1; replace p19 := eq_true p19; replace q19 := eq_true q19) | (go_at_call 90; (with_reducible refine (impl_other.calls (bt a0 x13_1) t125 _ A20.out).mono ?_); rintro e w' ⟨rfl, ⟨nd, rfl⟩⟩; (try first | exact ⟨rfl, _, World.drewN_drewN _ _ _⟩ | exact ⟨rfl, _, Eq.trans (World.drewN_drewN _ _ _) (congrArg (World.drewN _) (Nat.add_assoc _ _ _))⟩)))
                        repeat (go_quiet (first | (go_at_call 89; (with_reducible refine (impl_stepOf.calls (bt a0 x13_1) t121 _ A8.out).mono ?_); rintro e w' ⟨rfl, ⟨nd, rfl⟩⟩; (try first | exact ⟨rfl, _, World.drewN_drewN _ _ _⟩ | exact ⟨rfl, _, Eq.trans (World.drewN_drewN _ _ _) (congrArg (World.drewN _) (Nat.add_assoc _ _ _))⟩); have p14 : 0 ≤ ((ji11) : Int) := of_decide_eq_true (by first | (with_reducible assumption) | assumption); have q14 : (ji11) < (a0.size : Int) := of_decide_eq_true (by first | (with_reducible assumption) | assumption); have hx14 := bt_at a0 (ji11); replace p14 := eq_true p14; replace q14 := eq_true q14; have p18 : 0 ≤ ((ji11) : Int) := of_decide_eq_true (by first | (with_reducible assumption) | assumption); have q18 : (ji11) < (a0.size : Int) := of_decide_eq_true (by first | (with_reducible assumption) | assumption); have hx18 := bt_at a0 (ji11); replace p18 := eq_true p18; replace q18 := eq_true q18; have p19 : 0 ≤ (x13_1 : Int) := of_decide_eq_true (by first | (with_reducible assumption) | assumption); have q19 : x13_1 < (a0.size : Int) := of_decide_eq_true (by first | (with_reducible assumption) | assumption); have hx19 := bt_at a0 x13_1; replace p19 := eq_true p19; replace q19 := eq_true q19) | (go_at_call 90; (with_reducible refine (impl_other.calls (bt a0 x13_1) t125 _ A20.out).mono ?_); rintro e w' ⟨rfl, ⟨nd, rfl⟩⟩; (try first | exact ⟨rfl, _, World.drewN_drewN _ _ _⟩ | exact ⟨rfl, _, Eq.trans (World.drewN_drewN _ _ _) (congrArg (World.drewN _) (Nat.add_assoc _ _ _))⟩))); try go_wp2_with (first | (go_at_call 89; (with_reducible refine (impl_stepOf.calls (bt a0 x13_1) t121 _ A8.out).mono ?_); rintro e w' ⟨rfl, ⟨nd, rfl⟩⟩; (try first | exact ⟨rfl, _, World.drewN_drewN _ _ _⟩ | exact ⟨rfl, _, Eq.trans (World.drewN_drewN _ _ _) (congrArg (World.drewN _) (Nat.add_assoc _ _ _))⟩); have p14 : 0 ≤ ((ji11) : Int) := of_decide_eq_true (by first | (with_reducible assumption) | assumption); have q14 : (ji11) < (a0.size : Int) := of_decide_eq_true (by first | (with_reducible assumption) | assumption); have hx14 := bt_at a0 (ji11); replace p14 := eq_true p14; replace q14 := eq_true q14; have p18 : 0 ≤ ((ji11) : Int) := of_decide_eq_true (by first | (with_reducible assumption) | assumption); have q18 : (ji11) < (a0.size : Int) := of_decide_eq_true (by first | (with_reducible assumption) | assumption); have hx18 := bt_at a0 (ji11); replace p18 := eq_true p18; replace q18 := eq_true q18; have p19 : 0 ≤ (x13_1 : Int) := of_decide_eq_true (by first | (with_reducible assumption) | assumption); have q19 : x13_1 < (a0.size : Int) := of_decide_eq_true (by first | (with_reducible assumption) | assumption); have hx19 := bt_at a0 x13_1; replace p19 := eq_true p19; replace q19 := eq_true q19) | (go_at_call 90; (with_reducible refine (impl_other.calls (bt a0 x13_1) t125 _ A20.out).mono ?_); rintro e w' ⟨rfl, ⟨nd, rfl⟩⟩; (try first | exact ⟨rfl, _, World.drewN_drewN _ _ _⟩ | exact ⟨rfl, _, Eq.trans (World.drewN_drewN _ _ _) (congrArg (World.drewN _) (Nat.add_assoc _ _ _))⟩))))
                        go_roundg k1
                        case measure => have := HK1.out; omega
                        case rel => exact ⟨(x3_1), (wrap64 (x13_1 + 1)), (by first | rfl | (simp; done) | (simp [*]; done)), H', ⟨by have := HK1.out; omega⟩, ⟨by (with_reducible repeat (first | apply Kd.R_alloc | apply Kd.R_drewN | apply Kd.R_drew)); exact HO_3.out⟩, ⟨by repeat (first | (with_reducible first | exact HB.out | apply below_alloc | apply pw_below_drewN | apply below_drew1) | exact HB.out)⟩⟩
                  · rw [if_neg c13] at H
                    exact absurd H (by simp)
                · rw [if_neg c12] at H
                  exact absurd H (by simp)
          · rw [if_neg c6] at H
            exact absurd H (by simp)
        · rw [if_neg c5] at H
          exact absurd H (by simp)
      · rw [if_neg c4] at H
        have c4b0 : decide (x13_1 < (a0.size : Int)) = false := decide_eq_false c4
        clear c4
        obtain rfl := Option.some.inj H
        go_wp2
        repeat (go_quiet (fail); try go_wp2)
        go_ret
        exact ⟨_, by first | rfl | (simp [errW_none, errW_some] <;> rfl) | (simp [*, errW_none, errW_some] <;> rfl), by (with_reducible repeat (first | apply Kd.R_alloc | apply Kd.R_drewN | apply Kd.R_drew)); exact HO_3.out, by repeat (first | (with_reducible first | exact HB.out | apply below_alloc | apply pw_below_drewN | apply below_drew1) | exact HB.out)⟩

/-! ### impl_paths_play: function 71 (given) -/
section
open Go Go.RowKit Go.Lib Go.Proofs.YtjgijaocinpkhaaDoorW.PrintWords Go.Proofs.YtjgijaocinpkhaaDoorW.PrintLast Go.Proofs.YtjgijaocinpkhaaDoor.Pm
/-- each text was found from one before it, in what impl_pathsFrom.walk finds (its own impl_pathsFrom.f is none) -/
def Par (E : List PEnt) : Prop := ∀ (j : Nat) (e : PEnt), E[j]? = some e → e.par < (j : Int)
theorem back_fuel {E : List PEnt} (hp : Par E) : ∀ (k k' j : Nat), j < k → j < k' → Bfs.back E k j = Bfs.back E k' j
  | 0, _, _, h, _ => by omega
  | _, 0, _, _, h => by omega
  | k + 1, k' + 1, j, h, h' => by
    unfold Bfs.back
    cases he : E[j]? with
    | none => rfl
    | some e =>
      simp only
      have := hp j e he
      by_cases h0 : e.par < 0
      · rw [if_pos h0, if_pos h0]
      · rw [if_neg h0, if_neg h0, back_fuel hp k k' e.par.toNat (by omega) (by omega)]
theorem back_go {E : List PEnt} (hp : Par E) {q p : Nat} {e : PEnt} (he : E[q]? = some e) (h : e.par = (p : Int)) : Bfs.back E (q + 1) q = e.mov :: Bfs.back E (p + 1) p := by
  have h1 := hp q e he
  have h2 : Bfs.back E (q + 1) q = e.mov :: Bfs.back E q e.par.toNat := by
    rw [Bfs.back, he]
    simp only
    rw [if_neg (by omega)]
  rw [h2, h, Int.toNat_natCast, back_fuel hp q (p + 1) p (by omega) (by omega)]
theorem back_end {E : List PEnt} {q : Nat} {e : PEnt} (he : E[q]? = some e) (h : e.par < 0) : Bfs.back E (q + 1) q = [] := by
  rw [Bfs.back, he]
  simp only
  rw [if_pos h]
theorem pars_rd {E : List PEnt} {i : Nat} {e : PEnt} (h : E[i]? = some e) : rdOf 0 (E.map (·.par)) (i : Int) = e.par := by
  unfold rdOf
  rw [Int.toNat_natCast, List.getD_eq_getElem?_getD, List.getElem?_map, h]
  rfl
theorem movs_rd {E : List PEnt} {i : Nat} {e : PEnt} (h : E[i]? = some e) : rd_T83 (E.map (·.mov)) (i : Int) = e.mov := by
  unfold rd_T83
  rw [Int.toNat_natCast, List.getD_eq_getElem?_getD, List.getElem?_map, h]
  rfl
def mvCells (m : S83) : List Value := [.int .i64 m.f0, .int .i64 m.f1]
theorem impl_paths_play.rev {e base : Nat} (w : World) (A : Option Addr) (c : Nat) (l : List S83) (h : Kd.R k83 e w base (fun _ => True) (.slice A l.length c) l) (hl : l.length ≤ 1000000000) :
    Calls Tryd.prog 97 #[.slice A l.length c] w fun ee w' => ee = .returned (.tuple #[]) ∧ Kd.R k83 e w' base (fun _ => True) (.slice A l.length c) l.reverse ∧ w.grownBy w' (Value.slice A l.length c).ownBlock :=
  haveI : Inhabited S83 := ⟨⟨0, 0⟩⟩
  Rev.reverse_call (enc := mvCells) Tryd.laysRev (fun _ => by kernel_rfl) (fun _ => by kernel_rfl) (fun _ => rfl) (fun x v hv => by
    unfold mvCells at hv
    simp only [List.mem_cons, List.not_mem_nil, or_false] at hv
    rcases hv with rfl | rfl <;> rfl) k83 rfl (fun _ _ _ _ _ hm => k83_openM hm) (fun w b ok x => k83_mkM w b ok x) h hl
set_option maxHeartbeats 4000000 in
set_option maxRecDepth 1000000 in
theorem impl_paths_play.no_ (v : Value) (E : List PEnt) (y : ByteArray) (hy : y.size ≤ 1000) (w0 w : World) (hP : PathsAt w0 w v E) (hn : inN y (Bfs.nodes E) = false) :
    Calls Tryd.prog 71 #[v, .string y] w fun e w' => e = .returned (.tuple #[.slice none 0 0, .bool false]) ∧ Below w.heap.size w w' := by
  obtain ⟨bm, v0, v2, v3, v4, rfl, hl, hm, r0, r2, r3, r4, hne⟩ := hP
  have hu := Tryd.underlying67
  obtain ⟨A0, n0, k0, z0⟩ := R_any r0
  obtain ⟨A2, n2, k2, z2⟩ := R_any r2
  obtain ⟨A3, n3, k3, z3⟩ := R_any r3
  obtain ⟨A4, n4, k4, z4⟩ := R_any r4
  subst z0; subst z2; subst z3; subst z4
  obtain ⟨cl, hlook, _⟩ := (hm.alloc (.cells #[(.slice A0 n0 k0), .map (some bm), (.slice A2 n2 k2), (.slice A3 n3 k3), (.slice A4 n4 k4)] 67 (0, 0))).look (T := 64) Tryd.underlying9 Tryd.underlying64 Tryd.underlying3 (by kernel_rfl) y (by unfold maxLen; omega)
  rw [hn] at hlook
  have hB := below_alloc (Below.refl w.heap.size w) (.cells #[(.slice A0 n0 k0), .map (some bm), (.slice A2 n2 k2), (.slice A3 n3 k3), (.slice A4 n4 k4)] 67 (0, 0))
  clear r0 r2 r3 r4 hne hm
  go_enter Tryd.func71, Tryd.ntmps71
  go_wp2
  go_ret2
  exact ⟨rfl, hB⟩
set_option maxHeartbeats 4000000 in
set_option maxRecDepth 1000000 in
theorem impl_paths_play.walk (v : Value) (E : List PEnt) (y : ByteArray) (hy : y.size ≤ 1000) (w0 w : World) (hP : PathsAt w0 w v E) (hE : E.length ≤ 1000000) (hp : Par E) (j : Nat) (hj : (Bfs.nodes E)[j]? = some y) :
    Calls Tryd.prog 71 #[v, .string y] w fun e w' => (∃ v', e = .returned (.tuple #[v', .bool true]) ∧ Kd.R k83 83 w' w.heap.size (fun _ => True) v' (Bfs.back E (j + 1) j).reverse) ∧ Below w.heap.size w w' := by
  obtain ⟨bm, v0, v2, v3, v4, rfl, hl, hm, r0, r2, r3, r4, hne⟩ := hP
  have hu := Tryd.underlying67
  have hjl : j < E.length := by
    have := (List.getElem?_eq_some_iff.1 hj).1
    rwa [nodes_len] at this
  obtain ⟨A0, n0, k0, z0⟩ := R_any r0
  obtain ⟨g2, k2, z2⟩ := R_form r2 (by rw [List.length_map]; omega)
  obtain ⟨g3, k3, z3⟩ := R_form r3 (by rw [List.length_map]; omega)
  obtain ⟨A4, n4, k4, z4⟩ := R_any r4
  rw [List.length_map] at z2 z3
  subst z0; subst z2; subst z3; subst z4
  obtain ⟨cl, hlook, hcl⟩ := (hm.alloc (.cells #[(.slice A0 n0 k0), .map (some bm), (.slice (some ⟨g2, 0, none⟩) E.length k2), (.slice (some ⟨g3, 0, none⟩) E.length k3), (.slice A4 n4 k4)] 67 (0, 0))).look (T := 64) Tryd.underlying9 Tryd.underlying64 Tryd.underlying3 (by kernel_rfl) y (by unfold maxLen; omega)
  rw [inN_iff.2 (List.mem_of_getElem? hj), hcl j hj] at hlook
  have hB := below_alloc (Below.refl w.heap.size w) (.cells #[(.slice A0 n0 k0), .map (some bm), (.slice (some ⟨g2, 0, none⟩) E.length k2), (.slice (some ⟨g3, 0, none⟩) E.length k3), (.slice A4 n4 k4)] 67 (0, 0))
  have hb := blk_new w (.cells #[(.slice A0 n0 k0), .map (some bm), (.slice (some ⟨g2, 0, none⟩) E.length k2), (.slice (some ⟨g3, 0, none⟩) E.length k3), (.slice A4 n4 k4)] 67 (0, 0))
  have R2 := Aside0.mk r2
  have R3 := Aside0.mk r3
  have HE := Aside0.mk hE
  have HPar := Aside0.mk hp
  clear r0 r2 r3 r4 hne hm hcl hj hp
  go_enter Tryd.func71, Tryd.ntmps71
  go_wp2_with (first
    | ((with_reducible refine gate_dst (N := 18) rfl ?_); refine Kd.R_lit (w0 := w) k83 w.heap.size 83 ?hg (N := 18) ?hd (xs := ([] : List S83)) (inner := []) (ok := fun _ => True) (okp := fun _ => True) ?hr ?hp (fun _ hk => hk) trivial hB (below_size hB) (by simp) ?_; (case hd => rfl); (case hg => rfl); (case hr => first | (go_simp; done) | (go_simp; rfl)); (case hp => exact (Reps.none _ _)); intro v8 w1 ho1 hb1 hg1 hx1; have hb2 := blk_grown hb hg1 (by simp); clear hx1 hg1 hlook hb hB))
  go_loopw [6, 8] (fun x6 x8 wr => ∃ (q : Nat) (l : List S83), x6 = .int .i64 (q : Int) ∧ q < E.length ∧ Aside0 (Kd.R k83 83 wr w.heap.size (fun _ => True) x8 l) ∧ Hid (l ++ Bfs.back E (q + 1) q = Bfs.back E (j + 1) j) ∧ Aside0 (Below w.heap.size w wr) ∧
      Aside0 (wr.heap[w.heap.size]? = some (.cells #[(.slice A0 n0 k0), .map (some bm), (.slice (some ⟨g2, 0, none⟩) E.length k2), (.slice (some ⟨g3, 0, none⟩) E.length k3), (.slice A4 n4 k4)] 67 (0, 0))) ∧ Hid (l.length + q ≤ j)) (fun x6 _ _ => (RowKit.intOf x6).toNat)
  case atStart => exact ⟨j, [], rfl, hjl, Aside0.mk ho1, Lib.hid (List.nil_append _), Aside0.mk hb1, Aside0.mk hb2, Lib.hid (by simp)⟩
  case round =>
    clear ho1 hb1 hb2
    obtain ⟨q, l, rfl, hq, HR, HL, HB, HX, HN⟩ := hrel
    obtain ⟨e, he⟩ : ∃ e, E[q]? = some e := ⟨_, List.getElem?_eq_getElem hq⟩
    have hq0 : (0 : Int) ≤ (q : Int) := Int.natCast_nonneg _
    have hqd : decide ((q : Int) < (E.length : Int)) = true := decide_eq_true (by omega)
    have hc := R_icell (Kd.R_below R2.out HB.out) (q : Int) hq0 (by omega)
    rw [Int.toNat_natCast, pars_rd he] at hc
    have hx1 : wr.cell? ⟨w.heap.size, 2, none⟩ = some (.slice (some ⟨g2, 0, none⟩) E.length k2) := (blk_cell HX.out 2).trans rfl
    have hx2 : wr.cell? ⟨w.heap.size, 3, none⟩ = some (.slice (some ⟨g3, 0, none⟩) E.length k3) := (blk_cell HX.out 3).trans rfl
    by_cases h0 : e.par < 0
    · have hd1 : decide (e.par ≥ 0) = false := decide_eq_false (by omega)
      have hd2 : decide (0 ≤ e.par) = false := decide_eq_false (by omega)
      have hll : l = Bfs.back E (j + 1) j := by
        have := HL.out
        rw [back_end he h0, List.append_nil] at this
        exact this
      obtain ⟨A8, k8, z8⟩ := Kd.R_slice HR.out
      subst z8
      have hHN := HN.out
      have HLL := Lib.hid hll
      clear HN HL hll
      go_wp2_with (first | (go_at_call 97; refine (impl_paths_play.rev wr A8 k8 l HR.out (by omega)).mono ?_; rintro e' w3 ⟨rfl, hr3, hg3⟩))
      go_ret2
      refine ⟨⟨_, rfl, ?_⟩, HB.out.grown hg3 HB.out.size (fun k hk => Kd.R_base HR.out k hk)⟩
      rw [← HLL.out]
      exact hr3
    · obtain ⟨p, hp⟩ : ∃ p : Nat, e.par = (p : Int) := ⟨e.par.toNat, by omega⟩
      have hpq : p < q := by have := HPar.out q e he; omega
      have hd1 : decide ((p : Int) ≥ 0) = true := decide_eq_true (by omega)
      have hd2 : decide ((0 : Int) ≤ (p : Int)) = true := decide_eq_true (by omega)
      have hbk := back_go HPar.out he hp
      rw [hp] at hc
      obtain ⟨ad, ead, hy0, hy1⟩ := at_T83 (Kd.R_reads' (Kd.R_below R3.out HB.out)).2.2 (q : Int) (by omega) (by rw [List.length_map]; omega)
      rw [Int.toNat_natCast, movs_rd he] at hy0 hy1
      cases ead
      replace hy0 : wr.cell? ⟨g3, q * 2, none⟩ = some (.int .i64 e.mov.f0) := by rw [Addr.add_lit, Nat.zero_add] at hy0; exact hy0
      replace hy1 : wr.cell? ⟨g3, q * 2 + 1, none⟩ = some (.int .i64 e.mov.f1) := by rw [Addr.add_lit, Nat.zero_add] at hy1; exact hy1
      have hHE := HE.out
      have hHN := HN.out
      have HL2 : Hid ((l ++ [e.mov]) ++ Bfs.back E (p + 1) p = Bfs.back E (j + 1) j) := Lib.hid (by rw [← HL.out, hbk, List.append_assoc, List.singleton_append])
      obtain ⟨m, hmm⟩ : ∃ m, m = e.mov := ⟨_, rfl⟩
      rw [← hmm] at hy0 hy1 HL2
      clear hbk HN HL hmm
      go_wp2_with (first
        | ((with_reducible refine gate_builtin (b := .append) (xs := #[.tmp 30, .tmp 36]) rfl ?_); at_builtin; refine Kd.R_append k83 (w0 := w) w.heap.size rfl (.tmp 30) (.tmp 36) 46 83 (.agg #[.int .i64 0, .int .i64 0]) 16 rfl Tryd.underlying46 (by kernel_rfl) rfl (by decide) (by decide) _ l m [.int .i64 m.f0, .int .i64 m.f1] (fun _ => True) (fun _ => False) rfl rfl (k83_mkM _ _ _ m) (fun _ hk => hk.elim) (fun _ _ => trivial) HR.out HB.out HB.out.size (by omega) ?_; intro u3 w3 ho3 hb3 hg3 hat3; have hX3 := blk_grown HX.out hg3 (Kd.R_ne HR.out HX.out (by decide)); have hz1 : w3.cell? ⟨w.heap.size, 2, none⟩ = some (.slice (some ⟨g2, 0, none⟩) E.length k2) := (blk_cell hX3 2).trans rfl; have hc3 := R_icell (Kd.R_below R2.out hb3) (q : Int) hq0 (by omega); rw [Int.toNat_natCast, pars_rd he, hp] at hc3))
      exact ⟨⟨p, l ++ [m], rfl, by omega, Aside0.mk ho3, HL2, Aside0.mk hb3, Aside0.mk hX3, Lib.hid (by rw [List.length_append, List.length_singleton]; omega)⟩, by simp [RowKit.intOf]; omega⟩
theorem visitO_par {i d : Nat} {x : ByteArray} : ∀ (l : List S83) (E E' : List PEnt), visitO i d x l E = some E' → i < E.length → Par E → Par E' ∧ E.length ≤ E'.length
  | [], E, E', h, _, hp => by
    cases h
    exact ⟨hp, Nat.le_refl _⟩
  | m :: r, E, E', h, hi, hp => by
    rw [visitO] at h
    obtain ⟨y, _, h⟩ := Option.bind_eq_some_iff.mp h
    split at h
    case isFalse => cases h
    split at h
    · exact visitO_par r E E' h hi hp
    · split at h
      case isFalse => cases h
      obtain ⟨h1, h2⟩ := visitO_par r _ E' h (by rw [List.length_append]; omega) (fun j e he => by
        rcases Bfs.get_snoc he with he | ⟨rfl, rfl⟩
        · exact hp j e he
        · show (i : Int) < (E.length : Int)
          omega)
      rw [List.length_append] at h2
      exact ⟨h1, by omega⟩
theorem pathsO_par {M : ByteArray → Option (List S83)} : ∀ (k i : Nat) (E E' : List PEnt), pathsO M k i E = some E' → Par E → Par E'
  | 0, _, _, _, h, _ => by cases h
  | k + 1, i, E, E', h, hp => by
    rw [pathsO] at h
    cases he : E[i]? with
    | none =>
      rw [he] at h
      cases h
      exact hp
    | some e =>
      rw [he] at h
      simp only at h
      obtain ⟨ms, _, h⟩ := Option.bind_eq_some_iff.mp h
      split at h
      case isFalse => cases h
      obtain ⟨E1, hv, h⟩ := Option.bind_eq_some_iff.mp h
      exact pathsO_par k (i + 1) E1 E' h (visitO_par ms E E1 hv (Bfs.get_lt he) hp).1
theorem par_root (a : ByteArray) : Par [⟨a, -1, ⟨0, 0⟩, 0⟩] := fun j e he => by
  cases j with
  | zero => cases he; exact (by decide : (-1 : Int) < 0)
  | succ j => simp at he
/-- where a text stands first -/
def ixOf (y : ByteArray) (N : List ByteArray) : Nat := N.findIdx fun x => decide (x = y)
theorem ixOf_at {y : ByteArray} {N : List ByteArray} (h : y ∈ N) : N[ixOf y N]? = some y := by
  have hl : ixOf y N < N.length := List.findIdx_lt_length_of_exists ⟨y, h, by simp⟩
  have hp := List.findIdx_getElem (w := hl)
  rw [List.getElem?_eq_getElem hl]
  exact congrArg some (of_decide_eq_true hp)
/-- the first shortest way to a text -/
def playE (E : List PEnt) (y : ByteArray) : List S83 × Bool := if inN y (Bfs.nodes E) = true then ((Bfs.back E (ixOf y (Bfs.nodes E) + 1) (ixOf y (Bfs.nodes E))).reverse, true) else ([], false)
theorem playE_calls (v : Value) (E : List PEnt) (y : ByteArray) (hy : y.size ≤ 1000) (w0 w : World) (hP : PathsAt w0 w v E) (hE : E.length ≤ 1000000) (hp : Par E) :
    Calls Tryd.prog 71 #[v, .string y] w fun e w' => (∃ v', e = .returned (.tuple #[v', .bool (playE E y).2]) ∧ Kd.R k83 83 w' w.heap.size (fun _ => True) v' (playE E y).1) ∧ Below w.heap.size w w' := by
  cases hin : inN y (Bfs.nodes E) with
  | false =>
    have e : playE E y = ([], false) := by unfold playE; rw [if_neg (by rw [hin]; decide)]
    rw [e]
    exact (impl_paths_play.no_ v E y hy w0 w hP hin).mono fun e w' h => ⟨⟨_, h.1, Kd.R_nil _ _ _ _ _⟩, h.2⟩
  | true =>
    have e : playE E y = ((Bfs.back E (ixOf y (Bfs.nodes E) + 1) (ixOf y (Bfs.nodes E))).reverse, true) := by unfold playE; rw [if_pos hin]
    rw [e]
    exact impl_paths_play.walk v E y hy w0 w hP hE hp _ (ixOf_at (inN_iff.1 hin))
end
def impl_paths_play.f (a0 : Int) : Option (Int) := none
theorem impl_paths_play.calls : True := trivial


/-! ### impl_PathOnRing: function 38 (given) -/
section
open Go Go.RowKit Go.Lib Go.Proofs.YtjgijaocinpkhaaDoorW.PrintWords Go.Proofs.YtjgijaocinpkhaaDoorW.PrintLast Go.Proofs.YtjgijaocinpkhaaDoor.Pm
-- uses impl_paths_play.calls impl_pathsFrom.calls impl_ringMoves.calls impl_IsRing.calls
theorem ringMoves_pays (W0 W : World) (s : ByteArray) (ms : List S83) (hW : Below W0.heap.size W0 W) (h : impl_ringMoves.f 2000 s = some ms) :
    Calls Tryd.prog 53 (#[.string s] ++ #[]) W fun e W' => ∃ v, e = .returned v ∧ Kd.R k83 83 W' W.heap.size (fun _ => True) v ms ∧ Below W.heap.size W W' := impl_ringMoves.calls 2000 s ms W h
theorem ringMoves_enters : Enters Tryd.prog 53 := enters_of Tryd.func53 (by kernel_rfl) rfl
/-- all rings that are reached -/
def ringO (K : Nat) (a : ByteArray) : Option (List PEnt) := if a.size ≤ 1000 then pathsO (fun s => impl_ringMoves.f 2000 s) K 0 [⟨a, -1, ⟨0, 0⟩, 0⟩] else none
theorem ringO_call {K : Nat} {a : ByteArray} {E : List PEnt} (h : ringO K a = some E) (w : World) :
    Calls Tryd.prog 52 #[.string a, .func (.func 53) #[] #[]] w fun e w' => ∃ v, e = .returned v ∧ PathsAt w w' v E ∧ Pe E ∧ Below w.heap.size w w' := by
  unfold ringO at h
  split at h
  · exact impl_pathsFrom.walk 53 #[] ringMoves_enters (fun s => impl_ringMoves.f 2000 s) a (by assumption) K E w (fun W s ms hW hm => ringMoves_pays w W s ms hW hm) h
  · cases h
theorem ringO_par {K : Nat} {a : ByteArray} {E : List PEnt} (h : ringO K a = some E) : Par E := by
  unfold ringO at h
  split at h
  · exact pathsO_par K 0 _ E h (par_root a)
  · cases h
set_option maxHeartbeats 4000000 in
set_option maxRecDepth 1000000 in
theorem impl_PathOnRing.no1 (a c : ByteArray) (w : World) (h : impl_IsRing.f a = some false) :
    Calls Tryd.prog 38 #[.string a, .string c] w fun e w' => e = .returned (.tuple #[.slice none 0 0, .bool false]) ∧ Below w.heap.size w w' := by
  go_enter Tryd.func38, Tryd.ntmps38
  go_wp2_with (first
    | (go_at_call 49; refine (impl_IsRing.calls a false _ h).mono ?_; clear h; rintro e w1 ⟨rfl, hb1⟩))
  go_ret2
  exact ⟨rfl, hb1⟩
set_option maxHeartbeats 4000000 in
set_option maxRecDepth 1000000 in
theorem impl_PathOnRing.no2 (a c : ByteArray) (w : World) (h : impl_IsRing.f a = some true) (h2 : impl_IsRing.f c = some false) :
    Calls Tryd.prog 38 #[.string a, .string c] w fun e w' => e = .returned (.tuple #[.slice none 0 0, .bool false]) ∧ Below w.heap.size w w' := by
  go_enter Tryd.func38, Tryd.ntmps38
  go_wp2_with (first
    | (go_at_call 49; refine (impl_IsRing.calls a true _ h).mono ?_; clear h; rintro e w1 ⟨rfl, hb1⟩)
    | (go_at_call 49; refine (impl_IsRing.calls c false _ h2).mono ?_; clear h2; rintro e w2 ⟨rfl, hx⟩; have hb2 := below_step hb1 hx; clear hx))
  go_ret2
  exact ⟨rfl, hb2⟩
set_option maxHeartbeats 4000000 in
set_option maxRecDepth 1000000 in
theorem impl_PathOnRing.walk (K : Nat) (a c : ByteArray) (hc : c.size ≤ 1000) (E : List PEnt) (w : World) (h : impl_IsRing.f a = some true) (h2 : impl_IsRing.f c = some true) (hE : ringO K a = some E) :
    Calls Tryd.prog 38 #[.string a, .string c] w fun e w' => (∃ v', e = .returned (.tuple #[v', .bool (playE E c).2]) ∧ Kd.R k83 83 w' w.heap.size (fun _ => True) v' (playE E c).1) ∧ Below w.heap.size w w' := by
  have HPar := Aside0.mk (ringO_par hE)
  go_enter Tryd.func38, Tryd.ntmps38
  go_wp2_with (first
    | (go_at_call 49; refine (impl_IsRing.calls a true _ h).mono ?_; clear h; rintro e w1 ⟨rfl, hb1⟩)
    | (go_at_call 49; refine (impl_IsRing.calls c true _ h2).mono ?_; clear h2; rintro e w2 ⟨rfl, hx⟩; have hb2 := below_step hb1 hx; clear hx)
    | (go_at_call 52; refine (ringO_call hE _).mono ?_; rintro e w3 ⟨v, rfl, hP, hpe, hy⟩; have hb3 := below_step hb2 hy; have HC := Aside0.mk (playE_calls v E c hc _ _ hP hpe.len HPar.out); clear hP hpe hy)
    | (go_at_call 71; refine HC.out.mono ?_; rintro e w4 ⟨⟨v', rfl, hr⟩, hy⟩; have hb4 := below_step hb3 hy; have hr4 := Kd.R_lower hr hb3.size; obtain ⟨A4, k4, z4⟩ := Kd.R_slice hr4; subst z4; clear hy hr))
  go_ret2
  exact ⟨⟨_, rfl, hr4⟩, hb4⟩
end
/-- the first shortest way on a ring -/
def impl_PathOnRing.f (a0 a1 : ByteArray) : Option (List (S83) × Bool) := (impl_IsRing.f a0).bind fun r => if r = true then ((impl_IsRing.f a1).bind fun q => if q = true then (if a1.size ≤ 1000 then ((ringO 100000 a0).bind fun E => some (playE E a1)) else none) else some ([], false)) else some ([], false)
theorem impl_PathOnRing.calls (a0 a1 : ByteArray) (r1 : List (S83)) (r2 : Bool) (w : World) (h : impl_PathOnRing.f a0 a1 = some (r1, r2)) :
    Calls Tryd.prog 38 #[.string a0, .string a1] w fun e w' => ∃ v0_ : Value, e = .returned (.tuple #[v0_, .bool r2]) ∧ Go.Proofs.YtjgijaocinpkhaaDoorW.PrintWords.Kd.R k83 83 w' w.heap.size (fun _ => True) v0_ r1 ∧ Below w.heap.size w w' := by
  unfold impl_PathOnRing.f at h
  obtain ⟨r, hr, h⟩ := Option.bind_eq_some_iff.mp h
  cases r with
  | false =>
    rw [if_neg (by decide)] at h
    cases h
    exact (impl_PathOnRing.no1 a0 a1 w hr).mono fun e w' h => ⟨_, h.1, Go.Proofs.YtjgijaocinpkhaaDoorW.PrintWords.Kd.R_nil _ _ _ _ _, h.2⟩
  | true =>
    rw [if_pos rfl] at h
    obtain ⟨q, hq, h⟩ := Option.bind_eq_some_iff.mp h
    cases q with
    | false =>
      rw [if_neg (by decide)] at h
      cases h
      exact (impl_PathOnRing.no2 a0 a1 w hr hq).mono fun e w' h => ⟨_, h.1, Go.Proofs.YtjgijaocinpkhaaDoorW.PrintWords.Kd.R_nil _ _ _ _ _, h.2⟩
    | true =>
      rw [if_pos rfl] at h
      split at h
      · rename_i hs
        obtain ⟨E, hE, h⟩ := Option.bind_eq_some_iff.mp h
        have h1 : (playE E a1).1 = r1 := congrArg Prod.fst (Option.some.inj h)
        have h2 : (playE E a1).2 = r2 := congrArg Prod.snd (Option.some.inj h)
        subst h1
        subst h2
        exact (impl_PathOnRing.walk 100000 a0 a1 hs E w hr hq hE).mono fun e w' h => by
          obtain ⟨⟨v', e1, e2⟩, e3⟩ := h
          exact ⟨v', e1, e2, e3⟩
      · cases h


end Go.Proofs.YtjgijaocinpkhaaDoor.XQ
