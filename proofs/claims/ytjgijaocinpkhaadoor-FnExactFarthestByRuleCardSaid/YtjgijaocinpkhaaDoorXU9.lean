/- The Lean functions that the Go functions of this seat compute, each with the proof that the Go function computes it, for every input (laws: FnExactFarthestByRule). Conditions: none beyond those that each theorem names. Written by a program of this session over the kit's printer. -/
import Derived.Test.YtjgijaocinpkhaaDoorXU0
import Derived.Test.YtjgijaocinpkhaaDoorXU1
import Derived.Test.YtjgijaocinpkhaaDoorXU2
import Derived.Test.YtjgijaocinpkhaaDoorXU6
import Derived.Test.YtjgijaocinpkhaaDoorXU8
namespace Go.Proofs.YtjgijaocinpkhaaDoor.XU
open Go.RowKit Go.Proofs.YtjgijaocinpkhaaDoorW.PrintWords Go.Proofs.YtjgijaocinpkhaaDoorW.PrintLast Go.Proofs.YtjgijaocinpkhaaDoorW.PrintMore
attribute [local go_sem] max2_int min2_int max_two min_two max_three min_three max_four min_four   -- for this text's walks alone
attribute [local go_sem] Lib.run_min_strs Go.Proofs.YtjgijaocinpkhaaDoorXW.run_min2_strs Go.Proofs.YtjgijaocinpkhaaDoorXW.run_int_string
set_option linter.unusedVariables false
set_option linter.unusedSimpArgs false

/-! ### impl_FarthestByRule: function 22 (given) -/
section
open Go Go.RowKit Go.Lib Go.Proofs.YtjgijaocinpkhaaDoorW.PrintWords Go.Proofs.YtjgijaocinpkhaaDoorW.PrintLast Go.Proofs.YtjgijaocinpkhaaDoor.Pm
-- uses impl_byRule.calls impl_isReachLine.calls slices_Sorted_string.calls impl_pathsFrom.calls
theorem R_scell {e base g n cap : Nat} {ok : Nat → Prop} {w : World} {xs : List ByteArray} (h : Kd.string.R e w base ok (.slice (some ⟨g, 0, none⟩) n cap) xs) (i : Int) (h0 : 0 ≤ i) (hi : i < n) : w.cell? ⟨g, i.toNat, none⟩ = some (.string (rdOf ByteArray.empty xs i)) := (Kd.R_celln (enc := Value.string) (h1 := fun _ => rfl) ByteArray.empty h i h0 hi).1
def cmpI (x y : Int) : Int := if x < y then -1 else if y < x then 1 else 0
set_option maxHeartbeats 4000000 in
set_option maxRecDepth 1000000 in
theorem isNaN_call (x : Int) (w : World) : Calls Tryd.prog 93 #[.int .i64 x] w fun e w' => e = .returned (.bool false) ∧ w' = w := by
  go_enter Tryd.func93, Tryd.ntmps93
  go_wp2
  go_ret
  exact ⟨by simp, rfl⟩
set_option maxHeartbeats 4000000 in
set_option maxRecDepth 1000000 in
theorem cmpI_call (x y : Int) (w : World) : Calls Tryd.prog 61 #[.int .i64 x, .int .i64 y] w fun e w' => e = .returned (.int .i64 (cmpI x y)) ∧ Below w.heap.size w w' := by
  have hB := Below.refl w.heap.size w
  by_cases h1 : x < y
  · have HC := Lib.hid (show cmpI x y = -1 from if_pos h1)
    have hd1 : decide (x < y) = true := decide_eq_true h1
    go_enter Tryd.func61, Tryd.ntmps61
    go_wp2_with (first | (go_at_call 93; refine (isNaN_call _ _).mono ?_; rintro e w1 ⟨rfl, rfl⟩))
    go_ret
    exact ⟨by rw [HC.out]; rfl, hB⟩
  · have hd1 : decide (x < y) = false := decide_eq_false h1
    by_cases h2 : y < x
    · have HC := Lib.hid (show cmpI x y = 1 from (if_neg h1).trans (if_pos h2))
      have hd2 : decide (x > y) = true := decide_eq_true h2
      have hd3 : decide (y < x) = true := decide_eq_true h2
      go_enter Tryd.func61, Tryd.ntmps61
      go_wp2_with (first | (go_at_call 93; refine (isNaN_call _ _).mono ?_; rintro e w1 ⟨rfl, rfl⟩))
      go_ret
      exact ⟨by rw [HC.out]; rfl, hB⟩
    · have HC := Lib.hid (show cmpI x y = 0 from (if_neg h1).trans (if_neg h2))
      have hd2 : decide (x > y) = false := decide_eq_false h2
      have hd3 : decide (y < x) = false := decide_eq_false h2
      go_enter Tryd.func61, Tryd.ntmps61
      go_wp2_with (first | (go_at_call 93; refine (isNaN_call _ _).mono ?_; rintro e w1 ⟨rfl, rfl⟩))
      go_ret
      exact ⟨by rw [HC.out]; rfl, hB⟩
/-- the first of a row that no other one comes before -/
def minP (c : ByteArray → ByteArray → Option Int) : List ByteArray → ByteArray → Option ByteArray
  | [], m => some m
  | x :: r, m => (c x m).bind fun z => minP c r (if z < 0 then x else m)
set_option maxHeartbeats 4000000 in
set_option maxRecDepth 1000000 in
theorem minF_walk (g : FuncId) (lb : Array Value) (he : Enters Tryd.prog g) (c : ByteArray → ByteArray → Option Int) (v : Value) (base : Nat) (x0 : ByteArray) (l : List ByteArray) (r : ByteArray) (w : World)
    (hc : ∀ (W : World) (x m : ByteArray) (z : Int), Below w.heap.size w W → c x m = some z → Calls Tryd.prog g (#[.string x, .string m] ++ lb) W fun e W' => e = .returned (.int .i64 z) ∧ Below W.heap.size W W')
    (hl : l.length ≤ 1000000) (hr : Kd.R Kd.string 9 w base T_ v (x0 :: l)) (h : minP c l x0 = some r) :
    Calls Tryd.prog 59 #[v, .func (.func g) #[] lb] w fun e w' => e = .returned (.string r) ∧ Below w.heap.size w w' := by
  have eg : ∀ (args : Array Value) (w : World), (callFunc g args).run Tryd.prog w = .ok (.enter g args) w := he
  have HC := Aside0.mk hc
  have HR := Aside0.mk hr
  have HP := Lib.hid h
  obtain ⟨gv, cv, hzv⟩ := R_form hr (by simp)
  subst hzv
  have hlen : (x0 :: l).length = l.length + 1 := rfl
  rw [hlen] at HR
  have hgv := trivial
  have hx0 := R_scell HR.out 0 (by decide) (by omega)
  replace hx0 : w.cell? ⟨gv, 0, none⟩ = some (.string x0) := hx0
  have hd0 : decide (((l.length + 1 : Nat) : Int) < 1) = false := decide_eq_false (by omega)
  clear hc hr h
  rw [hlen]
  go_enter Tryd.func59, Tryd.ntmps59
  go_wp2
  clear hx0 hd0
  go_loopw [5, 6] (fun x5 x6 wr => ∃ (k : Nat) (m : ByteArray), x5 = .string m ∧ x6 = .int .i64 ((k + 1 : Nat) : Int) ∧ k ≤ l.length ∧ Hid (minP c (l.drop k) m = some r) ∧ Aside0 (Below w.heap.size w wr)) (fun _ x6 _ => l.length + 1 - (RowKit.intOf x6).toNat)
  case atStart => exact ⟨0, x0, rfl, rfl, Nat.zero_le _, HP, Aside0.mk (Below.refl _ _)⟩
  case round =>
    clear HP
    obtain ⟨k, m, rfl, rfl, hk, HP, HB⟩ := hrel
    by_cases hkl : k < l.length
    · have hdec : decide (((k + 1 : Nat) : Int) < ((l.length + 1 : Nat) : Int)) = true := decide_eq_true (by omega)
      have hp := HP.out
      have hdr : l.drop k = l[k] :: l.drop (k + 1) := List.drop_eq_getElem_cons hkl
      rw [hdr, minP] at hp
      obtain ⟨z, hz, hp⟩ := Option.bind_eq_some_iff.mp hp
      have hx := R_scell (Kd.R_below HR.out HB.out) ((k + 1 : Nat) : Int) (by omega) (by omega)
      rw [Int.toNat_natCast] at hx
      have hrd : rdOf ByteArray.empty (x0 :: l) ((k + 1 : Nat) : Int) = l[k] := by
        unfold rdOf
        rw [Int.toNat_natCast, List.getD_eq_getElem?_getD, List.getElem?_cons_succ, List.getElem?_eq_getElem hkl]
        rfl
      rw [hrd] at hx
      have HP2 := Lib.hid hp
      clear hp hdr hrd HP
      generalize l[k] = x at *
      have hk0 : (0 : Int) ≤ ((k + 1 : Nat) : Int) := Int.natCast_nonneg _
      by_cases hz0 : z < 0
      · have hzd : decide (z < 0) = true := decide_eq_true hz0
        rw [if_pos hz0] at HP2
        go_wp2_with (first | (go_at_fn g; refine (HC.out _ x m z HB.out hz).mono ?_; rintro e w1 ⟨rfl, hy⟩; have HB2 := Aside0.mk (below_step HB.out hy); have hx2 : w1.cell? ⟨gv, k + 1, none⟩ = some (.string x) := (hy.cell (World.block_lt_of_cell? _ _ hx)).trans hx; clear hy HB))
        exact ⟨⟨k + 1, x, rfl, rfl, by omega, HP2, HB2⟩, by simp [RowKit.intOf]; omega⟩
      · have hzd : decide (z < 0) = false := decide_eq_false hz0
        rw [if_neg hz0] at HP2
        go_wp2_with (first | (go_at_fn g; refine (HC.out _ x m z HB.out hz).mono ?_; rintro e w1 ⟨rfl, hy⟩; have HB2 := Aside0.mk (below_step HB.out hy); clear hy HB))
        exact ⟨⟨k + 1, m, rfl, rfl, by omega, HP2, HB2⟩, by simp [RowKit.intOf]; omega⟩
    · obtain rfl : k = l.length := by omega
      have hdec : decide (((l.length + 1 : Nat) : Int) < ((l.length + 1 : Nat) : Int)) = false := decide_eq_false (by omega)
      have hp := HP.out
      rw [List.drop_length, minP] at hp
      obtain rfl := Option.some.inj hp
      clear hp HP
      go_wp2
      go_ret
      exact ⟨rfl, HB.out⟩
/-- where a text stands first, and how deep it was found -/
def ixF (y : ByteArray) (N : List ByteArray) : Nat := N.findIdx fun x => decide (x = y)
theorem ixF_at {y : ByteArray} {N : List ByteArray} (h : y ∈ N) : N[ixF y N]? = some y := by
  have hl : ixF y N < N.length := List.findIdx_lt_length_of_exists ⟨y, h, by simp⟩
  have hp := List.findIdx_getElem (w := hl)
  rw [List.getElem?_eq_getElem hl]
  exact congrArg some (of_decide_eq_true hp)
def depF (E : List PEnt) (y : ByteArray) : Int := rdOf 0 (E.map fun (e : PEnt) => (e.dep : Int)) (ixF y (Bfs.nodes E) : Int)
def farC (E : List PEnt) (a b : ByteArray) : Option Int := if inN a (Bfs.nodes E) = true ∧ inN b (Bfs.nodes E) = true ∧ a.size ≤ 1000 ∧ b.size ≤ 1000 then some (cmpI (depF E b) (depF E a)) else none
/-- the search in a box -/
structure Pbx (w0 w : World) (p : Nat) (E : List PEnt) : Prop where
  ex : ∃ (bm : Nat) (v0 v2 v3 v4 : Value), w.heap[p]? = some (.cells #[v0, .map (some bm), v2, v3, v4] 67 (0, 0)) ∧ PathsAt w0 w (.agg #[v0, .map (some bm), v2, v3, v4]) E
theorem Pbx.up {w0 w w1 : World} {p : Nat} {E : List PEnt} (h : Pbx w0 w p E) (hb : Below w.heap.size w w1) : Pbx w0 w1 p E := by
  obtain ⟨bm, v0, v2, v3, v4, h1, h2⟩ := h.ex
  exact ⟨bm, v0, v2, v3, v4, blk_below h1 hb, h2.up hb⟩
set_option maxHeartbeats 4000000 in
set_option maxRecDepth 1000000 in
theorem far1_walk (w0 : World) (p : Nat) (E : List PEnt) (a b : ByteArray) (z : Int) (w : World) (hP : Pbx w0 w p E) (h : farC E a b = some z) :
    Calls Tryd.prog 60 (#[.string a, .string b] ++ #[.pointer (some ⟨p, 0, none⟩)]) w fun e w' => e = .returned (.int .i64 z) ∧ Below w.heap.size w w' := by
  unfold farC at h
  split at h
  case isFalse => cases h
  rename_i hh
  obtain ⟨h1, h2, h3, h4⟩ := hh
  obtain rfl := Option.some.inj h
  clear h
  obtain ⟨bm, v0, v2, v3, v4, hb, hPA⟩ := (hP.up (below_drew1 (Below.refl _ _))).ex
  obtain ⟨bm', v0', v2', v3', v4', hv, hlt, hm, r0, r2, r3, r4, hne⟩ := hPA
  injection hv with hv
  simp only [Array.mk.injEq, List.cons.injEq, and_true] at hv
  obtain ⟨rfl, hv1, rfl, rfl, rfl⟩ := hv
  injection hv1 with hv1
  injection hv1 with hv1
  subst hv1
  have hia := ixF_at (inN_iff.1 h1)
  have hib := ixF_at (inN_iff.1 h2)
  have hlE : (Bfs.nodes E).length = E.length := List.length_map _
  have hial : ixF a (Bfs.nodes E) < E.length := by rw [← hlE]; exact (List.getElem?_eq_some_iff.1 hia).1
  have hibl : ixF b (Bfs.nodes E) < E.length := by rw [← hlE]; exact (List.getElem?_eq_some_iff.1 hib).1
  have hla := hm.look1 (T := 64) Tryd.underlying9 Tryd.underlying64 Tryd.underlying3 (by kernel_rfl) a (by unfold maxLen; omega) _ hia
  have hlb := hm.look1 (T := 64) Tryd.underlying9 Tryd.underlying64 Tryd.underlying3 (by kernel_rfl) b (by unfold maxLen; omega) _ hib
  obtain ⟨g4, c4, hz4⟩ := R_form r4 (by rw [List.length_map]; omega)
  rw [List.length_map] at hz4
  subst hz4
  have hca := R_icell r4 (ixF a (Bfs.nodes E) : Int) (by omega) (by omega)
  have hcb := R_icell r4 (ixF b (Bfs.nodes E) : Int) (by omega) (by omega)
  rw [Int.toNat_natCast] at hca hcb
  replace hca : w.drew.cell? ⟨g4, ixF a (Bfs.nodes E), none⟩ = some (.int .i64 (depF E a)) := hca
  replace hcb : w.drew.cell? ⟨g4, ixF b (Bfs.nodes E), none⟩ = some (.int .i64 (depF E b)) := hcb
  have h4c : w.drew.cell? ⟨p, 4, none⟩ = some (.slice (some ⟨g4, 0, none⟩) E.length c4) := (blk_cell hb 4).trans rfl
  have h1c : w.drew.cell? ⟨p, 1, none⟩ = some (.map (some bm)) := (blk_cell hb 1).trans rfl
  have hB4 := below_drew1 (Below.refl w.heap.size w)
  clear r0 r2 r3 r4 hne hm hb hia hib hP h1 h2 h3 h4 hlt
  generalize depF E a = da at *
  generalize depF E b = db at *
  generalize ixF a (Bfs.nodes E) = ia at *
  generalize ixF b (Bfs.nodes E) = ib at *
  have hia0 : (0 : Int) ≤ (ia : Int) := Int.natCast_nonneg _
  have hib0 : (0 : Int) ≤ (ib : Int) := Int.natCast_nonneg _
  have hia1 : (ia : Int) < (E.length : Int) := by omega
  have hib1 : (ib : Int) < (E.length : Int) := by omega
  go_enter Tryd.func60, Tryd.ntmps60
  go_wp2_with fail
  refine start_ (n := 18) (S := fun w' => w'.cell? ⟨p, 4, none⟩ = some (.slice (some ⟨g4, 0, none⟩) E.length c4) ∧ w'.cell? ⟨p, 1, none⟩ = some (.map (some bm)) ∧ (Instr.lookup 64 (.map (some bm)) (.string b) false).run Tryd.prog w' = .ok (.int .i64 (ib : Int)) w' ∧ w'.cell? ⟨g4, ib, none⟩ = some (.int .i64 db) ∧ (Instr.lookup 64 (.map (some bm)) (.string a) false).run Tryd.prog w' = .ok (.int .i64 (ia : Int)) w' ∧ w'.cell? ⟨g4, ia, none⟩ = some (.int .i64 da)) (ds := [16]) #[false, false, false, false, false, false, false, false, false, false, false, false, false, false, false, false, false, false] (by kernel_rfl) rfl rfl ⟨h4c, h1c, hlb, hcb, hla, hca⟩ (fun hHeld => ?_)
  generalize w.drew = W4 at *
  refine pure_ (i := 0) (N := some 6) (v := ?_) (a' := ?_) #[true, false, false, false, false, false, false, false, false, false, false, false, false, false, false, false, false, false] rfl rfl (by kernel_rfl) (fun _ _ _ h => h) (Or.inl ⟨by rfl, ?_⟩) ?_ ?_
  rotate_left
  · intro w'
    go_simp
    with_reducible rfl
  rotate_left
  · simp only [Act.put, List.setIfInBounds_toArray, List.set_cons_zero, List.set_cons_succ, i64_w, i32_w]
    rfl
  refine take_ (i := 1) (N := some 7) (v := ?_) (a' := ?_) #[true, true, false, false, false, false, false, false, false, false, false, false, false, false, false, false, false, false] rfl rfl (by kernel_rfl) (fun _ _ _ h => h) (Or.inl ⟨by rfl, ?_⟩) hHeld ?_ ?_
  rotate_left
  · rintro w' ⟨s0, s1, s2, s3, s4, s5⟩
    go_simp
    with_reducible rfl
  rotate_left
  · simp only [Act.put, List.setIfInBounds_toArray, List.set_cons_zero, List.set_cons_succ, i64_w, i32_w]
    rfl
  refine pure_ (i := 2) (N := some 8) (v := ?_) (a' := ?_) #[true, true, true, false, false, false, false, false, false, false, false, false, false, false, false, false, false, false] rfl rfl (by kernel_rfl) (fun _ _ _ h => h) (Or.inl ⟨by rfl, ?_⟩) ?_ ?_
  rotate_left
  · intro w'
    go_simp
    with_reducible rfl
  rotate_left
  · simp only [Act.put, List.setIfInBounds_toArray, List.set_cons_zero, List.set_cons_succ, i64_w, i32_w]
    rfl
  refine take_ (i := 3) (N := some 9) (v := ?_) (a' := ?_) #[true, true, true, true, false, false, false, false, false, false, false, false, false, false, false, false, false, false] rfl rfl (by kernel_rfl) (fun _ _ _ h => h) (Or.inl ⟨by rfl, ?_⟩) hHeld ?_ ?_
  rotate_left
  · rintro w' ⟨s0, s1, s2, s3, s4, s5⟩
    go_simp
    with_reducible rfl
  rotate_left
  · simp only [Act.put, List.setIfInBounds_toArray, List.set_cons_zero, List.set_cons_succ, i64_w, i32_w]
    rfl
  refine pure_ (i := 4) (N := some 10) (v := ?_) (a' := ?_) #[true, true, true, true, true, false, false, false, false, false, false, false, false, false, false, false, false, false] rfl rfl (by kernel_rfl) (fun _ _ _ h => h) (Or.inl ⟨by rfl, ?_⟩) ?_ ?_
  rotate_left
  · intro w'
    go_simp
    with_reducible rfl
  rotate_left
  · simp only [Act.put, List.setIfInBounds_toArray, List.set_cons_zero, List.set_cons_succ, i64_w, i32_w]
    rfl
  refine take_ (i := 5) (N := some 11) (v := ?_) (a' := ?_) #[true, true, true, true, true, true, false, false, false, false, false, false, false, false, false, false, false, false] rfl rfl (by kernel_rfl) (fun _ _ _ h => h) (Or.inl ⟨by rfl, ?_⟩) hHeld ?_ ?_
  rotate_left
  · rintro w' ⟨s0, s1, s2, s3, s4, s5⟩
    go_simp
    with_reducible rfl
  rotate_left
  · simp only [Act.put, List.setIfInBounds_toArray, List.set_cons_zero, List.set_cons_succ, i64_w, i32_w]
    rfl
  refine pure_ (i := 6) (N := some 12) (v := ?_) (a' := ?_) #[true, true, true, true, true, true, true, false, false, false, false, false, false, false, false, false, false, false] rfl rfl (by kernel_rfl) (fun _ _ _ h => h) (Or.inl ⟨by rfl, ?_⟩) ?_ ?_
  rotate_left
  · intro w'
    go_simp
    with_reducible rfl
  rotate_left
  · simp only [Act.put, List.setIfInBounds_toArray, List.set_cons_zero, List.set_cons_succ, i64_w, i32_w]
    rfl
  refine take_ (i := 7) (N := some 13) (v := ?_) (a' := ?_) #[true, true, true, true, true, true, true, true, false, false, false, false, false, false, false, false, false, false] rfl rfl (by kernel_rfl) (fun _ _ _ h => h) (Or.inl ⟨by rfl, ?_⟩) hHeld ?_ ?_
  rotate_left
  · rintro w' ⟨s0, s1, s2, s3, s4, s5⟩
    go_simp
    with_reducible rfl
  rotate_left
  · simp only [Act.put, List.setIfInBounds_toArray, List.set_cons_zero, List.set_cons_succ, i64_w, i32_w]
    rfl
  refine pure_ (i := 8) (N := some 14) (v := ?_) (a' := ?_) #[true, true, true, true, true, true, true, true, true, false, false, false, false, false, false, false, false, false] rfl rfl (by kernel_rfl) (fun _ _ _ h => h) (Or.inl ⟨by rfl, ?_⟩) ?_ ?_
  rotate_left
  · intro w'
    go_simp
    with_reducible rfl
  rotate_left
  · simp only [Act.put, List.setIfInBounds_toArray, List.set_cons_zero, List.set_cons_succ, i64_w, i32_w]
    rfl
  refine take_ (i := 9) (N := some 15) (v := ?_) (a' := ?_) #[true, true, true, true, true, true, true, true, true, true, false, false, false, false, false, false, false, false] rfl rfl (by kernel_rfl) (fun _ _ _ h => h) (Or.inl ⟨by rfl, ?_⟩) hHeld ?_ ?_
  rotate_left
  · rintro w' ⟨s0, s1, s2, s3, s4, s5⟩
    go_simp
    with_reducible rfl
  rotate_left
  · simp only [Act.put, List.setIfInBounds_toArray, List.set_cons_zero, List.set_cons_succ, i64_w, i32_w]
    rfl
  refine pure_ (i := 10) (N := some 16) (v := ?_) (a' := ?_) #[true, true, true, true, true, true, true, true, true, true, true, false, false, false, false, false, false, false] rfl rfl (by kernel_rfl) (fun _ _ _ h => h) (Or.inl ⟨by rfl, ?_⟩) ?_ ?_
  rotate_left
  · intro w'
    go_simp
    with_reducible rfl
  rotate_left
  · simp only [Act.put, List.setIfInBounds_toArray, List.set_cons_zero, List.set_cons_succ, i64_w, i32_w]
    rfl
  refine take_ (i := 11) (N := some 17) (v := ?_) (a' := ?_) #[true, true, true, true, true, true, true, true, true, true, true, true, false, false, false, false, false, false] rfl rfl (by kernel_rfl) (fun _ _ _ h => h) (Or.inl ⟨by rfl, ?_⟩) hHeld ?_ ?_
  rotate_left
  · rintro w' ⟨s0, s1, s2, s3, s4, s5⟩
    go_simp
    with_reducible rfl
  rotate_left
  · simp only [Act.put, List.setIfInBounds_toArray, List.set_cons_zero, List.set_cons_succ, i64_w, i32_w]
    rfl
  refine pure_ (i := 12) (N := some 18) (v := ?_) (a' := ?_) #[true, true, true, true, true, true, true, true, true, true, true, true, true, false, false, false, false, false] rfl rfl (by kernel_rfl) (fun _ _ _ h => h) (Or.inl ⟨by rfl, ?_⟩) ?_ ?_
  rotate_left
  · intro w'
    go_simp
    with_reducible rfl
  rotate_left
  · simp only [Act.put, List.setIfInBounds_toArray, List.set_cons_zero, List.set_cons_succ, i64_w, i32_w]
    rfl
  refine take_ (i := 13) (N := some 19) (v := ?_) (a' := ?_) #[true, true, true, true, true, true, true, true, true, true, true, true, true, true, false, false, false, false] rfl rfl (by kernel_rfl) (fun _ _ _ h => h) (Or.inl ⟨by rfl, ?_⟩) hHeld ?_ ?_
  rotate_left
  · rintro w' ⟨s0, s1, s2, s3, s4, s5⟩
    go_simp
    with_reducible rfl
  rotate_left
  · simp only [Act.put, List.setIfInBounds_toArray, List.set_cons_zero, List.set_cons_succ, i64_w, i32_w]
    rfl
  refine pure_ (i := 14) (N := some 20) (v := ?_) (a' := ?_) #[true, true, true, true, true, true, true, true, true, true, true, true, true, true, true, false, false, false] rfl rfl (by kernel_rfl) (fun _ _ _ h => h) (Or.inl ⟨by rfl, ?_⟩) ?_ ?_
  rotate_left
  · intro w'
    go_simp
    with_reducible rfl
  rotate_left
  · simp only [Act.put, List.setIfInBounds_toArray, List.set_cons_zero, List.set_cons_succ, i64_w, i32_w]
    rfl
  refine take_ (i := 15) (N := some 21) (v := ?_) (a' := ?_) #[true, true, true, true, true, true, true, true, true, true, true, true, true, true, true, true, false, false] rfl rfl (by kernel_rfl) (fun _ _ _ h => h) (Or.inl ⟨by rfl, ?_⟩) hHeld ?_ ?_
  rotate_left
  · rintro w' ⟨s0, s1, s2, s3, s4, s5⟩
    go_simp
    with_reducible rfl
  rotate_left
  · simp only [Act.put, List.setIfInBounds_toArray, List.set_cons_zero, List.set_cons_succ, i64_w, i32_w]
    rfl
  refine last_ (i := 16) (N := some 22) #[true, true, true, true, true, true, true, true, true, true, true, true, true, true, true, true, true, false] rfl rfl (by kernel_rfl) (by decide) (fun K hK => ?_)
  refine goes_ Tryd.func61 (by kernel_rfl) rfl #[.int .i64 db, .int .i64 da] (by rfl) rfl rfl (by (try simp only [List.map_toArray, List.map_cons, List.map_nil]); first | done | rfl) ?_
  with_reducible refine (cmpI_call db da _).mono ?_
  rintro e1 W5 ⟨rfl, hb5⟩
  refine ⟨_, rfl, ?_⟩
  refine hK.out _ _ ?_
  clear hK K
  refine norm_ (a' := ?_) ?_ ?_
  rotate_left
  · show Act.put _ (some 22) _ = _
    simp only [Act.put, List.setIfInBounds_toArray, List.set_cons_zero, List.set_cons_succ, i64_w, i32_w]
    rfl
  refine pure_ (i := 17) (N := some 5) (v := ?_) (a' := ?_) #[true, true, true, true, true, true, true, true, true, true, true, true, true, true, true, true, true, true] rfl rfl (by kernel_rfl) (fun _ _ _ h => h) (Or.inl ⟨by rfl, ?_⟩) ?_ ?_
  rotate_left
  · intro w'
    go_simp
    with_reducible rfl
  rotate_left
  · simp only [Act.put, List.setIfInBounds_toArray, List.set_cons_zero, List.set_cons_succ, i64_w, i32_w]
    rfl
  refine done_ (by kernel_rfl) ?_
  go_wp2
  go_ret
  exact ⟨rfl, below_step hB4 hb5⟩
theorem far1_enters : Enters Tryd.prog 60 := enters_of Tryd.func60 (by kernel_rfl) rfl
set_option maxHeartbeats 4000000 in
set_option maxRecDepth 1000000 in
theorem impl_FarthestByRule.no_ (a : ByteArray) (o b l : Bool) (w : World) (h : impl_isReachLine.f a = some false) :
    Calls Tryd.prog 22 #[.string a, .agg #[.bool o, .bool b, .bool l]] w fun e w' => e = .returned (.tuple #[.string ⟨#[]⟩, .int .i64 0, .bool false]) ∧ Below w.heap.size w w' := by
  go_enter Tryd.func22, Tryd.ntmps22
  go_wp2_with (first
    | (go_at_call 57; refine (impl_isReachLine.calls a false _ h).mono ?_; rintro e w1 ⟨rfl, hx⟩; have hb1 := below_step (below_alloc (Below.refl _ _) _) hx))
  go_ret3
  exact ⟨rfl, hb1⟩
set_option maxHeartbeats 4000000 in
set_option maxRecDepth 1000000 in
theorem impl_FarthestByRule.walk (K : Nat) (a : ByteArray) (o b l : Bool) (E : List PEnt) (x0 r : ByteArray) (ls : List ByteArray) (w : World) (h : impl_isReachLine.f a = some true) (hE : byRuleO K a o b l = some E) (hs : Go.Proofs.YtjgijaocinpkhaaDoor.Sorts.sorted (Bfs.nodes E) = x0 :: ls) (hm : minP (farC E) ls x0 = some r) (hls : ls.length ≤ 1000000) (hr : inN r (Bfs.nodes E) = true) (hrs : r.size ≤ 1000) :
    Calls Tryd.prog 22 #[.string a, .agg #[.bool o, .bool b, .bool l]] w fun e w' => e = .returned (.tuple #[.string r, .int .i64 (depF E r), .bool true]) ∧ Below w.heap.size w w' := by
  have hu := Tryd.underlying67
  have hmf : ∀ (fn : Fn) (first cap : Array Value) (w : World), (Instr.makeFunc fn first cap).run Tryd.prog w = .ok (.func fn first cap) w := fun _ _ _ _ => rfl
  go_enter Tryd.func22, Tryd.ntmps22
  go_wp2_with (first
    | (go_at_call 57; refine (impl_isReachLine.calls a true _ h).mono ?_; rintro e w1 ⟨rfl, hx⟩; have hb1 := below_step (below_alloc (Below.refl _ _) _) hx; have hbx := blk_below (blk_new w (.cells #[.bool o, .bool b, .bool l] 32 (0, 0))) hx; have c0 : w1.cell? ⟨w.heap.size, 0, none⟩ = some (.bool o) := (blk_cell hbx 0).trans rfl; have c1 : w1.cell? ⟨w.heap.size, 1, none⟩ = some (.bool b) := (blk_cell hbx 1).trans rfl; have c2 : w1.cell? ⟨w.heap.size, 2, none⟩ = some (.bool l) := (blk_cell hbx 2).trans rfl; clear hx hbx)
    | (go_at_call 58; refine (impl_byRule.walk K a o b l E _ hE).mono ?_; rintro e w2 ⟨v, rfl, hP, hpe, hy⟩; have hb2 := below_step hb1 hy; have hEl := hpe.len; obtain ⟨bm, v0, v2, v3, v4, rfl, hl, hm9, r0, r2, r3, r4, hne⟩ := hP; obtain ⟨A0, k0, z0⟩ := Kd.R_slice r0; obtain ⟨A2, n2, k2, z2⟩ := R_any r2; obtain ⟨A3, n3, k3, z3⟩ := R_any r3; obtain ⟨A4, n4, k4, z4⟩ := R_any r4; subst z0; subst z2; subst z3; subst z4; have hP : PathsAt w1 w2 (.agg #[.slice A0 (Bfs.nodes E).length k0, .map (some bm), .slice A2 n2 k2, .slice A3 n3 k3, .slice A4 n4 k4]) E := ⟨bm, _, _, _, _, rfl, hl, hm9, r0, r2, r3, r4, hne⟩; have R0 := Aside0.mk r0; clear hpe hy c0 c1 c2 hm9 r0 r2 r3 r4 hne)
    | (go_at_call 51; refine (vals_call _ _ _ _).mono ?_; rintro e w4 ⟨rfl, rfl⟩; have hb34 : Below w2.heap.size w2 ((w2.alloc (.cells #[.slice A0 (Bfs.nodes E).length k0, .map (some bm), .slice A2 n2 k2, .slice A3 n3 k3, .slice A4 n4 k4] 67)).alloc (.cells #[.slice A0 (Bfs.nodes E).length k0] 22)) := below_alloc (below_alloc (Below.refl _ _) _) _; have hx4 : ((w2.alloc (.cells #[.slice A0 (Bfs.nodes E).length k0, .map (some bm), .slice A2 n2 k2, .slice A3 n3 k3, .slice A4 n4 k4] 67)).alloc (.cells #[.slice A0 (Bfs.nodes E).length k0] 22)).heap[w2.heap.size + 1]? = some (.cells #[.slice A0 (Bfs.nodes E).length k0] 22 (0, 0)) := (by have := blk_new (w2.alloc (.cells #[.slice A0 (Bfs.nodes E).length k0, .map (some bm), .slice A2 n2 k2, .slice A3 n3 k3, .slice A4 n4 k4] 67)) (.cells #[.slice A0 (Bfs.nodes E).length k0] 22 (0, 0)); rwa [World.size_alloc] at this); have HX : Aside0 (Pbx w1 ((w2.alloc (.cells #[.slice A0 (Bfs.nodes E).length k0, .map (some bm), .slice A2 n2 k2, .slice A3 n3 k3, .slice A4 n4 k4] 67)).alloc (.cells #[.slice A0 (Bfs.nodes E).length k0] 22)) w2.heap.size E) := Aside0.mk ⟨bm, _, _, _, _, blk_alloc (blk_new w2 _) _, hP.up hb34⟩)
    | (go_at_call 50; refine (slices_Sorted_string.walk (w2.heap.size + 1) w1.heap.size w2 _ A0 k0 (Bfs.nodes E) R0.out (by rw [nodes_len]; exact hEl) hb34 hx4).mono ?_; rintro e w5 ⟨⟨v', rfl, hr5⟩, hy5⟩; have hb5 := below_step (below_step hb2 hb34) hy5; have HX5 := Aside0.mk (HX.out.up hy5); rw [hs] at hr5; have R5 := Aside0.mk hr5; clear hx4 hb34 HX hy5 hr5)
    | (go_at_call 59; refine (minF_walk 60 #[.pointer (some ⟨w2.heap.size, 0, none⟩)] far1_enters (farC E) v' _ x0 ls r w5 (fun W x m z hW hz => far1_walk w1 w2.heap.size E x m z W (HX5.out.up hW) hz) hls R5.out hm).mono ?_; rintro e w6 ⟨rfl, hy6⟩; have hb6 := below_step hb5 hy6; have HX6 := Aside0.mk (HX5.out.up hy6); clear hy6 HX5))
  obtain ⟨bm', u0, u2, u3, u4, hbk, hPA⟩ := (HX6.out.up (below_drew1 (Below.refl _ _))).ex
  obtain ⟨bm9, u0', u2', u3', u4', hv, hlt, hm7, q0, q2, q3, q4, hne⟩ := hPA
  injection hv with hv
  simp only [Array.mk.injEq, List.cons.injEq, and_true] at hv
  obtain ⟨rfl, hv1, rfl, rfl, rfl⟩ := hv
  injection hv1 with hv1
  injection hv1 with hv1
  subst hv1
  have hir := ixF_at (inN_iff.1 hr)
  have hlE : (Bfs.nodes E).length = E.length := List.length_map _
  have hirl : ixF r (Bfs.nodes E) < E.length := by rw [← hlE]; exact (List.getElem?_eq_some_iff.1 hir).1
  have hlr := hm7.look1 (T := 64) Tryd.underlying9 Tryd.underlying64 Tryd.underlying3 (by kernel_rfl) r (by unfold maxLen; omega) _ hir
  obtain ⟨g4, c4, hz4⟩ := R_form q4 (by rw [List.length_map]; omega)
  rw [List.length_map] at hz4
  subst hz4
  have hcr := R_icell q4 (ixF r (Bfs.nodes E) : Int) (by omega) (by omega)
  rw [Int.toNat_natCast] at hcr
  replace hcr : w6.drew.cell? ⟨g4, ixF r (Bfs.nodes E), none⟩ = some (.int .i64 (depF E r)) := hcr
  have h4c : w6.drew.cell? ⟨w2.heap.size, 4, none⟩ = some (.slice (some ⟨g4, 0, none⟩) E.length c4) := (blk_cell hbk 4).trans rfl
  have h1c : w6.drew.cell? ⟨w2.heap.size, 1, none⟩ = some (.map (some bm')) := (blk_cell hbk 1).trans rfl
  have hB7 := below_drew1 hb6
  clear q0 q2 q3 q4 hne hm7 hbk hir HX6 R5 R0 hP hs hr hlt
  obtain ⟨dr, hdr⟩ : ∃ dr, depF E r = dr := ⟨_, rfl⟩
  rw [hdr] at hcr
  have HD := Lib.hid hdr
  clear hdr
  generalize ixF r (Bfs.nodes E) = ir at *
  have hir0 : (0 : Int) ≤ (ir : Int) := Int.natCast_nonneg _
  have hir1 : (ir : Int) < (E.length : Int) := by omega
  refine start_ (n := 12) (S := fun w' => w'.cell? ⟨w2.heap.size, 4, none⟩ = some (.slice (some ⟨g4, 0, none⟩) E.length c4) ∧ w'.cell? ⟨w2.heap.size, 1, none⟩ = some (.map (some bm')) ∧ (Instr.lookup 64 (.map (some bm')) (.string r) false).run Tryd.prog w' = .ok (.int .i64 (ir : Int)) w' ∧ w'.cell? ⟨g4, ir, none⟩ = some (.int .i64 dr)) (ds := []) #[false, false, false, false, false, false, false, false, false, false, false, false] (by kernel_rfl) rfl rfl ⟨h4c, h1c, hlr, hcr⟩ (fun hHeld => ?_)
  generalize w6.drew = W7 at *
  refine pure_ (i := 0) (N := some 21) (v := ?_) (a' := ?_) #[true, false, false, false, false, false, false, false, false, false, false, false] rfl rfl (by kernel_rfl) (fun _ _ _ h => h) (Or.inl ⟨by rfl, ?_⟩) ?_ ?_
  rotate_left
  · intro w'
    go_simp
    with_reducible rfl
  rotate_left
  · simp only [Act.put, List.setIfInBounds_toArray, List.set_cons_zero, List.set_cons_succ, i64_w, i32_w]
    rfl
  refine pure_ (i := 1) (N := some 22) (v := ?_) (a' := ?_) #[true, true, false, false, false, false, false, false, false, false, false, false] rfl rfl (by kernel_rfl) (fun _ _ _ h => h) (Or.inl ⟨by rfl, ?_⟩) ?_ ?_
  rotate_left
  · intro w'
    go_simp
    with_reducible rfl
  rotate_left
  · simp only [Act.put, List.setIfInBounds_toArray, List.set_cons_zero, List.set_cons_succ, i64_w, i32_w]
    rfl
  refine take_ (i := 2) (N := some 23) (v := ?_) (a' := ?_) #[true, true, true, false, false, false, false, false, false, false, false, false] rfl rfl (by kernel_rfl) (fun _ _ _ h => h) (Or.inl ⟨by rfl, ?_⟩) hHeld ?_ ?_
  rotate_left
  · rintro w' ⟨s0, s1, s2, s3⟩
    go_simp
    with_reducible rfl
  rotate_left
  · simp only [Act.put, List.setIfInBounds_toArray, List.set_cons_zero, List.set_cons_succ, i64_w, i32_w]
    rfl
  refine pure_ (i := 3) (N := some 24) (v := ?_) (a' := ?_) #[true, true, true, true, false, false, false, false, false, false, false, false] rfl rfl (by kernel_rfl) (fun _ _ _ h => h) (Or.inl ⟨by rfl, ?_⟩) ?_ ?_
  rotate_left
  · intro w'
    go_simp
    with_reducible rfl
  rotate_left
  · simp only [Act.put, List.setIfInBounds_toArray, List.set_cons_zero, List.set_cons_succ, i64_w, i32_w]
    rfl
  refine take_ (i := 4) (N := some 25) (v := ?_) (a' := ?_) #[true, true, true, true, true, false, false, false, false, false, false, false] rfl rfl (by kernel_rfl) (fun _ _ _ h => h) (Or.inl ⟨by rfl, ?_⟩) hHeld ?_ ?_
  rotate_left
  · rintro w' ⟨s0, s1, s2, s3⟩
    go_simp
    with_reducible rfl
  rotate_left
  · simp only [Act.put, List.setIfInBounds_toArray, List.set_cons_zero, List.set_cons_succ, i64_w, i32_w]
    rfl
  refine pure_ (i := 5) (N := some 26) (v := ?_) (a' := ?_) #[true, true, true, true, true, true, false, false, false, false, false, false] rfl rfl (by kernel_rfl) (fun _ _ _ h => h) (Or.inl ⟨by rfl, ?_⟩) ?_ ?_
  rotate_left
  · intro w'
    go_simp
    with_reducible rfl
  rotate_left
  · simp only [Act.put, List.setIfInBounds_toArray, List.set_cons_zero, List.set_cons_succ, i64_w, i32_w]
    rfl
  refine take_ (i := 6) (N := some 27) (v := ?_) (a' := ?_) #[true, true, true, true, true, true, true, false, false, false, false, false] rfl rfl (by kernel_rfl) (fun _ _ _ h => h) (Or.inl ⟨by rfl, ?_⟩) hHeld ?_ ?_
  rotate_left
  · rintro w' ⟨s0, s1, s2, s3⟩
    go_simp
    with_reducible rfl
  rotate_left
  · simp only [Act.put, List.setIfInBounds_toArray, List.set_cons_zero, List.set_cons_succ, i64_w, i32_w]
    rfl
  refine pure_ (i := 7) (N := some 28) (v := ?_) (a' := ?_) #[true, true, true, true, true, true, true, true, false, false, false, false] rfl rfl (by kernel_rfl) (fun _ _ _ h => h) (Or.inl ⟨by rfl, ?_⟩) ?_ ?_
  rotate_left
  · intro w'
    go_simp
    with_reducible rfl
  rotate_left
  · simp only [Act.put, List.setIfInBounds_toArray, List.set_cons_zero, List.set_cons_succ, i64_w, i32_w]
    rfl
  refine take_ (i := 8) (N := some 29) (v := ?_) (a' := ?_) #[true, true, true, true, true, true, true, true, true, false, false, false] rfl rfl (by kernel_rfl) (fun _ _ _ h => h) (Or.inl ⟨by rfl, ?_⟩) hHeld ?_ ?_
  rotate_left
  · rintro w' ⟨s0, s1, s2, s3⟩
    go_simp
    with_reducible rfl
  rotate_left
  · simp only [Act.put, List.setIfInBounds_toArray, List.set_cons_zero, List.set_cons_succ, i64_w, i32_w]
    rfl
  refine pure_ (i := 9) (N := some 4) (v := ?_) (a' := ?_) #[true, true, true, true, true, true, true, true, true, true, false, false] rfl rfl (by kernel_rfl) (fun _ _ _ h => h) (Or.inl ⟨by rfl, ?_⟩) ?_ ?_
  rotate_left
  · intro w'
    go_simp
    with_reducible rfl
  rotate_left
  · simp only [Act.put, List.setIfInBounds_toArray, List.set_cons_zero, List.set_cons_succ, i64_w, i32_w]
    rfl
  refine pure_ (i := 10) (N := some 5) (v := ?_) (a' := ?_) #[true, true, true, true, true, true, true, true, true, true, true, false] rfl rfl (by kernel_rfl) (fun _ _ _ h => h) (Or.inl ⟨by rfl, ?_⟩) ?_ ?_
  rotate_left
  · intro w'
    go_simp
    with_reducible rfl
  rotate_left
  · simp only [Act.put, List.setIfInBounds_toArray, List.set_cons_zero, List.set_cons_succ, i64_w, i32_w]
    rfl
  refine pure_ (i := 11) (N := some 6) (v := ?_) (a' := ?_) #[true, true, true, true, true, true, true, true, true, true, true, true] rfl rfl (by kernel_rfl) (fun _ _ _ h => h) (Or.inl ⟨by rfl, ?_⟩) ?_ ?_
  rotate_left
  · intro w'
    go_simp
    with_reducible rfl
  rotate_left
  · simp only [Act.put, List.setIfInBounds_toArray, List.set_cons_zero, List.set_cons_succ, i64_w, i32_w]
    rfl
  refine done_ (by kernel_rfl) ?_
  go_wp2
  go_ret3
  exact ⟨by rw [HD.out]; rfl, hB7⟩
end
/-- the text that was found deepest, the first one of these in order -/
def farO (E : List PEnt) : Option (ByteArray × Int × Bool) := match Go.Proofs.YtjgijaocinpkhaaDoor.Sorts.sorted (Bfs.nodes E) with
  | [] => none
  | x0 :: ls => (minP (farC E) ls x0).bind fun r => if ls.length ≤ 1000000 ∧ Go.Proofs.YtjgijaocinpkhaaDoor.Pm.inN r (Bfs.nodes E) = true ∧ r.size ≤ 1000 then some (r, depF E r, true) else none
def impl_FarthestByRule.f (a0 : ByteArray) (a1_0 a1_1 a1_2 : Bool) : Option (ByteArray × Int × Bool) := (impl_isReachLine.f a0).bind fun r => if r = true then ((byRuleO 100000 a0 a1_0 a1_1 a1_2).bind farO) else some (⟨#[]⟩, 0, false)
theorem impl_FarthestByRule.calls (a0 : ByteArray) (a1_0 a1_1 a1_2 : Bool) (r1 : ByteArray) (r2 : Int) (r3 : Bool) (w : World) (h : impl_FarthestByRule.f a0 a1_0 a1_1 a1_2 = some (r1, r2, r3)) :
    Calls Tryd.prog 22 #[.string a0, .agg #[.bool a1_0, .bool a1_1, .bool a1_2]] w fun e w' => e = .returned (.tuple #[.string r1, .int .i64 r2, .bool r3]) ∧ Below w.heap.size w w' := by
  unfold impl_FarthestByRule.f at h
  obtain ⟨r, hr, h⟩ := Option.bind_eq_some_iff.mp h
  cases r with
  | false =>
    rw [if_neg (by decide)] at h
    cases h
    exact impl_FarthestByRule.no_ a0 _ _ _ w hr
  | true =>
    rw [if_pos rfl] at h
    obtain ⟨E, hE, h⟩ := Option.bind_eq_some_iff.mp h
    unfold farO at h
    split at h
    · cases h
    · rename_i x0 ls hs
      obtain ⟨m, hm, h⟩ := Option.bind_eq_some_iff.mp h
      split at h
      · rename_i hh
        cases h
        exact impl_FarthestByRule.walk 100000 a0 _ _ _ E x0 _ ls w hr hE hs hm hh.1 hh.2.1 hh.2.2
      · cases h


/-! ### laws_FnExactFarthestByRule: function 4 -/
def laws_FnExactFarthestByRule.f (k : Nat) (a0 : ByteArray) (a1_0 : Bool) (a1_1 : Bool) (a1_2 : Bool) : Option (Bool) := if (a0.size : Int) > 1048576 then (some true) else ((laws_toRule.f a1_0 a1_1 a1_2).bind fun bt157 => ((spec_FarthestByRule.f k a0 bt157.1 bt157.2.1 bt157.2.2).bind fun bt160 => ((laws_toRule.f a1_0 a1_1 a1_2).bind fun bt163 => ((impl_FarthestByRule.f a0 bt163.1 bt163.2.1 bt163.2.2).bind fun bt166 => (if bt166.1.toList = bt160.1.toList then (if bt166.2.1 = bt160.2.1 then (if (bt166.2.2 != bt160.2.2) = true then (some false) else (some true)) else (some false)) else (some false))))))
theorem laws_FnExactFarthestByRule.mono : ∀ a0 a1 a2 a3 k, LeO (laws_FnExactFarthestByRule.f k a0 a1 a2 a3) (laws_FnExactFarthestByRule.f (k + 1) a0 a1 a2 a3) := by
  intro a0 a1 a2 a3 k
  unfold laws_FnExactFarthestByRule.f
  repeat' first
      | (with_reducible exact spec_FarthestByRule.mono _ _ _ _ _)
      | (with_reducible exact LeO.refl _)
      | (with_reducible exact LeO.none _)
      | (with_reducible refine LeO.ite ?_ ?_)
      | (with_reducible refine LeO.bind ?_ (fun _ => ?_))
      | exact spec_FarthestByRule.mono _ _ _ _ _
      | exact LeO.none _
      | refine LeO.ite ?_ ?_
      | refine LeO.bind ?_ (fun _ => ?_)
set_option maxHeartbeats 8000000 in
set_option maxRecDepth 100000 in
theorem laws_FnExactFarthestByRule.calls (k : Nat) (a0 : ByteArray) (a1_0 : Bool) (a1_1 : Bool) (a1_2 : Bool) (r : Bool) (w : World) (h : laws_FnExactFarthestByRule.f k a0 a1_0 a1_1 a1_2 = some r) :
    Calls Tryd.prog 4 #[.string a0, .agg #[.bool a1_0, .bool a1_1, .bool a1_2]] w fun e w' => e = .returned (.bool r) ∧ Below w.heap.size w w' := by
  have hu29 := Tryd.underlying29
  have HB := Aside0.mk (Below.refl w.heap.size w)
  have H : (if (a0.size : Int) > 1048576 then (some true) else ((laws_toRule.f a1_0 a1_1 a1_2).bind fun bt157 => ((spec_FarthestByRule.f k a0 bt157.1 bt157.2.1 bt157.2.2).bind fun bt160 => ((laws_toRule.f a1_0 a1_1 a1_2).bind fun bt163 => ((impl_FarthestByRule.f a0 bt163.1 bt163.2.1 bt163.2.2).bind fun bt166 => (if bt166.1.toList = bt160.1.toList then (if bt166.2.1 = bt160.2.1 then (if (bt166.2.2 != bt160.2.2) = true then (some false) else (some true)) else (some false)) else (some false))))))) = some r := h
  clear h
  by_cases c3 : (a0.size : Int) > 1048576
  · rw [if_pos c3] at H
    have c3b0 : decide (1048576 < (a0.size : Int)) = true := decide_eq_true c3
    have c3b1 : decide (1048576 < a0.size) = true := decide_eq_true (by omega)
    clear c3
    obtain rfl := Option.some.inj H
    go_enter Tryd.func4, Tryd.ntmps4
    go_wp2_with (first | ((with_reducible refine gate_dst (N := 3) rfl ?_); refine box_event ?hg (N := 3) ?hd (cs := #[.bool a1_0, .bool a1_1, .bool a1_2]) (t := 29) ?hr ?_; (case hd => rfl); (case hg => rfl); (case hr => first | (go_simp; done) | (go_simp; rfl)); intro gb156 hg w4 hbox hb; have n0_ := Aside0.mk (below_step (by repeat (first | (with_reducible first | exact HB.out | apply below_alloc | apply pw_below_drewN | apply below_drew1) | exact HB.out)) hb); have n1_ := Aside0.mk (hbox); have n2_ := Aside0.mk ((by rw [hg]; exact (below_size (by repeat (first | (with_reducible first | exact HB.out | apply below_alloc | apply pw_below_drewN | apply below_drew1) | exact HB.out))) : w.heap.size ≤ gb156)); have n3_ := Aside0.mk ((by rw [hg]; exact (below_size (by repeat (first | (with_reducible first | exact HB.out | apply below_alloc | apply pw_below_drewN | apply below_drew1) | exact HB.out))) : w.heap.size ≤ gb156)); clear HB; have HB := n0_; have BK156 := n1_; have GW156 := n2_; have GE156 := n3_; clear n0_ n1_ n2_ n3_; clear hb hbox hg))
    go_ret
    exact ⟨by first | rfl | (simp [errW_none, errW_some] <;> rfl) | (simp [*, errW_none, errW_some] <;> rfl), by repeat (first | (with_reducible first | exact HB.out | apply below_alloc | apply pw_below_drewN | apply below_drew1 | refine below_set ?_ GE156.out) | exact HB.out)⟩
  · rw [if_neg c3] at H
    have c3b0 : decide (1048576 < (a0.size : Int)) = false := decide_eq_false c3
    have c3b1 : decide (1048576 < a0.size) = false := decide_eq_false (by omega)
    clear c3
    replace H := Option.bind_eq_some_iff.mp H
    obtain ⟨⟨t157, t158, t159⟩, A50, H⟩ := H
    replace H : ((spec_FarthestByRule.f k a0 t157 t158 t159).bind fun bt160 => ((laws_toRule.f a1_0 a1_1 a1_2).bind fun bt163 => ((impl_FarthestByRule.f a0 bt163.1 bt163.2.1 bt163.2.2).bind fun bt166 => (if bt166.1.toList = bt160.1.toList then (if bt166.2.1 = bt160.2.1 then (if (bt166.2.2 != bt160.2.2) = true then (some false) else (some true)) else (some false)) else (some false))))) = some r := H
    have A5 := Aside0.mk A50
    clear A50
    replace H := Option.bind_eq_some_iff.mp H
    obtain ⟨⟨t160, t161, t162⟩, A60, H⟩ := H
    replace H : ((laws_toRule.f a1_0 a1_1 a1_2).bind fun bt163 => ((impl_FarthestByRule.f a0 bt163.1 bt163.2.1 bt163.2.2).bind fun bt166 => (if bt166.1.toList = t160.toList then (if bt166.2.1 = t161 then (if (bt166.2.2 != t162) = true then (some false) else (some true)) else (some false)) else (some false)))) = some r := H
    have A6 := Aside0.mk A60
    clear A60
    replace H := Option.bind_eq_some_iff.mp H
    obtain ⟨⟨t163, t164, t165⟩, A70, H⟩ := H
    replace H : ((impl_FarthestByRule.f a0 t163 t164 t165).bind fun bt166 => (if bt166.1.toList = t160.toList then (if bt166.2.1 = t161 then (if (bt166.2.2 != t162) = true then (some false) else (some true)) else (some false)) else (some false))) = some r := H
    have A7 := Aside0.mk A70
    clear A70
    replace H := Option.bind_eq_some_iff.mp H
    obtain ⟨⟨t166, t167, t168⟩, A80, H⟩ := H
    replace H : (if t166.toList = t160.toList then (if t167 = t161 then (if (t168 != t162) = true then (some false) else (some true)) else (some false)) else (some false)) = some r := H
    have A8 := Aside0.mk A80
    clear A80
    by_cases c9 : t166.toList = t160.toList
    · rw [if_pos c9] at H
      have c9b0 : (t166.toList == t160.toList) = true := beq_iff_eq.mpr c9
      have c9b1 : (t166.toList != t160.toList) = false := bne_eq_false_iff_eq.mpr c9
      clear c9
      by_cases c10 : t167 = t161
      · rw [if_pos c10] at H
        have c10b0 : (t167 == t161) = true := beq_iff_eq.mpr c10
        have c10b1 : (t167 != t161) = false := bne_eq_false_iff_eq.mpr c10
        clear c10
        by_cases c11 : (t168 != t162) = true
        · rw [if_pos c11] at H
          have c11b0 : (t168 != t162) = true := c11
          (try (have c11b1 : decide (t168 = t162) = false := by simpa using c11))
          (try (have c11b2 : (t168 == t162) = false := by simpa using c11))
          (try (have c11b3 : ¬ (t168 = t162) := by simpa using c11))
          clear c11
          obtain rfl := Option.some.inj H
          go_enter Tryd.func4, Tryd.ntmps4
          go_wp2_with (first | ((with_reducible refine gate_dst (N := 3) rfl ?_); refine box_event ?hg (N := 3) ?hd (cs := #[.bool a1_0, .bool a1_1, .bool a1_2]) (t := 29) ?hr ?_; (case hd => rfl); (case hg => rfl); (case hr => first | (go_simp; done) | (go_simp; rfl)); intro gb156 hg w12 hbox hb; have n0_ := Aside0.mk (below_step (by repeat (first | (with_reducible first | exact HB.out | apply below_alloc | apply pw_below_drewN | apply below_drew1) | exact HB.out)) hb); have n1_ := Aside0.mk (hbox); have n2_ := Aside0.mk ((by rw [hg]; exact (below_size (by repeat (first | (with_reducible first | exact HB.out | apply below_alloc | apply pw_below_drewN | apply below_drew1) | exact HB.out))) : w.heap.size ≤ gb156)); have n3_ := Aside0.mk ((by rw [hg]; exact (below_size (by repeat (first | (with_reducible first | exact HB.out | apply below_alloc | apply pw_below_drewN | apply below_drew1) | exact HB.out))) : w.heap.size ≤ gb156)); clear HB; have HB := n0_; have BK156 := n1_; have GW156 := n2_; have GE156 := n3_; clear n0_ n1_ n2_ n3_; clear hb hbox hg; have hcz13_0 : w12.cell? ⟨gb156, 0, none⟩ = some (.bool a1_0) := (blk_cell BK156.out 0).trans rfl; have hcz13_1 : w12.cell? ⟨gb156, 1, none⟩ = some (.bool a1_1) := (blk_cell BK156.out 1).trans rfl; have hcz13_2 : w12.cell? ⟨gb156, 2, none⟩ = some (.bool a1_2) := (blk_cell BK156.out 2).trans rfl; have hfz13_0 := blk_frozen BK156.out 0; have hfz13_1 := blk_frozen BK156.out 1; have hfz13_2 := blk_frozen BK156.out 2) | ((with_reducible refine gate_callee (f := 21) rfl ?_); refine goesL_ (some 17) rfl rfl Tryd.func21 (by kernel_rfl) rfl #[.agg #[.bool a1_0, .bool a1_1, .bool a1_2]] rfl (by (try simp only [List.map_toArray, List.map_cons, List.map_nil]); first | done | rfl | (simp only [List.length_drop, List.length_take]; rfl)) ?_; (with_reducible refine (laws_toRule.calls a1_0 a1_1 a1_2 t157 t158 t159 _ A5.out).mono ?_); rintro e w14 ⟨rfl, hb⟩; refine ⟨_, rfl, ?_⟩; have n0_ := Aside0.mk (blk_below (g := gb156) (o := .cells #[.bool a1_0, .bool a1_1, .bool a1_2] 29 (0, 0)) (by (with_reducible repeat (first | refine blk_drewN ?_ _ | refine blk_drew ?_ | refine blk_alloc ?_ _)); exact BK156.out) hb); have n1_ := Aside0.mk (below_step (by repeat (first | (with_reducible first | exact HB.out | apply below_alloc | apply pw_below_drewN | apply below_drew1 | refine below_set ?_ GE156.out) | exact HB.out)) hb); clear BK156; clear HB; have BK156 := n0_; have HB := n1_; clear n0_ n1_; (try clear hb); (try clear hb2); (try clear hk); (try clear hi)) | ((with_reducible refine gate_callee (f := 20) rfl ?_); refine goesL_ (some 18) rfl rfl Tryd.func20 (by kernel_rfl) rfl #[.string a0, .agg #[.bool t157, .bool t158, .bool t159]] rfl (by (try simp only [List.map_toArray, List.map_cons, List.map_nil]); first | done | rfl | (simp only [List.length_drop, List.length_take]; rfl)) ?_; (with_reducible refine (spec_FarthestByRule.calls k a0 t157 t158 t159 t160 t161 t162 _ A6.out).mono ?_); rintro e w15 ⟨rfl, hb⟩; refine ⟨_, rfl, ?_⟩; have n0_ := Aside0.mk (blk_below (g := gb156) (o := .cells #[.bool a1_0, .bool a1_1, .bool a1_2] 29 (0, 0)) (by (with_reducible repeat (first | refine blk_drewN ?_ _ | refine blk_drew ?_ | refine blk_alloc ?_ _)); exact BK156.out) hb); have n1_ := Aside0.mk (below_step (by repeat (first | (with_reducible first | exact HB.out | apply below_alloc | apply pw_below_drewN | apply below_drew1 | refine below_set ?_ GE156.out) | exact HB.out)) hb); clear BK156; clear HB; have BK156 := n0_; have HB := n1_; clear n0_ n1_; (try clear hb); (try clear hb2); (try clear hk); (try clear hi); have hcz16_0 : w15.cell? ⟨gb156, 0, none⟩ = some (.bool a1_0) := (blk_cell BK156.out 0).trans rfl; have hcz16_1 : w15.cell? ⟨gb156, 1, none⟩ = some (.bool a1_1) := (blk_cell BK156.out 1).trans rfl; have hcz16_2 : w15.cell? ⟨gb156, 2, none⟩ = some (.bool a1_2) := (blk_cell BK156.out 2).trans rfl; have hfz16_0 := blk_frozen BK156.out 0; have hfz16_1 := blk_frozen BK156.out 1; have hfz16_2 := blk_frozen BK156.out 2) | ((with_reducible refine gate_callee (f := 21) rfl ?_); refine goesL_ (some 25) rfl rfl Tryd.func21 (by kernel_rfl) rfl #[.agg #[.bool a1_0, .bool a1_1, .bool a1_2]] rfl (by (try simp only [List.map_toArray, List.map_cons, List.map_nil]); first | done | rfl | (simp only [List.length_drop, List.length_take]; rfl)) ?_; (with_reducible refine (laws_toRule.calls a1_0 a1_1 a1_2 t163 t164 t165 _ A7.out).mono ?_); rintro e w17 ⟨rfl, hb⟩; refine ⟨_, rfl, ?_⟩; have n0_ := Aside0.mk (blk_below (g := gb156) (o := .cells #[.bool a1_0, .bool a1_1, .bool a1_2] 29 (0, 0)) (by (with_reducible repeat (first | refine blk_drewN ?_ _ | refine blk_drew ?_ | refine blk_alloc ?_ _)); exact BK156.out) hb); have n1_ := Aside0.mk (below_step (by repeat (first | (with_reducible first | exact HB.out | apply below_alloc | apply pw_below_drewN | apply below_drew1 | refine below_set ?_ GE156.out) | exact HB.out)) hb); clear BK156; clear HB; have BK156 := n0_; have HB := n1_; clear n0_ n1_; (try clear hb); (try clear hb2); (try clear hk); (try clear hi)) | ((with_reducible refine gate_callee (f := 22) rfl ?_); refine goesL_ (some 26) rfl rfl Tryd.func22 (by kernel_rfl) rfl #[.string a0, .agg #[.bool t163, .bool t164, .bool t165]] rfl (by (try simp only [List.map_toArray, List.map_cons, List.map_nil]); first | done | rfl | (simp only [List.length_drop, List.length_take]; rfl)) ?_; (with_reducible refine (impl_FarthestByRule.calls a0 t163 t164 t165 t166 t167 t168 _ A8.out).mono ?_); rintro e w18 ⟨rfl, hb⟩; refine ⟨_, rfl, ?_⟩; have n0_ := Aside0.mk (blk_below (g := gb156) (o := .cells #[.bool a1_0, .bool a1_1, .bool a1_2] 29 (0, 0)) (by (with_reducible repeat (first | refine blk_drewN ?_ _ | refine blk_drew ?_ | refine blk_alloc ?_ _)); exact BK156.out) hb); have n1_ := Aside0.mk (below_step (by repeat (first | (with_reducible first | exact HB.out | apply below_alloc | apply pw_below_drewN | apply below_drew1 | refine below_set ?_ GE156.out) | exact HB.out)) hb); clear BK156; clear HB; have BK156 := n0_; have HB := n1_; clear n0_ n1_; (try clear hb); (try clear hb2); (try clear hk); (try clear hi)))
          go_ret
          exact ⟨by first | rfl | (simp [errW_none, errW_some] <;> rfl) | (simp [*, errW_none, errW_some] <;> rfl), by repeat (first | (with_reducible first | exact HB.out | apply below_alloc | apply pw_below_drewN | apply below_drew1 | refine below_set ?_ GE156.out) | exact HB.out)⟩
        · rw [if_neg c11] at H
          have c11b0 : (t168 != t162) = false := by simpa using c11
          (try (have c11b1 : decide (t168 = t162) = true := by simpa using c11))
          (try (have c11b2 : (t168 == t162) = true := by simpa using c11))
          clear c11
          obtain rfl := Option.some.inj H
          go_enter Tryd.func4, Tryd.ntmps4
          go_wp2_with (first | ((with_reducible refine gate_dst (N := 3) rfl ?_); refine box_event ?hg (N := 3) ?hd (cs := #[.bool a1_0, .bool a1_1, .bool a1_2]) (t := 29) ?hr ?_; (case hd => rfl); (case hg => rfl); (case hr => first | (go_simp; done) | (go_simp; rfl)); intro gb156 hg w19 hbox hb; have n0_ := Aside0.mk (below_step (by repeat (first | (with_reducible first | exact HB.out | apply below_alloc | apply pw_below_drewN | apply below_drew1) | exact HB.out)) hb); have n1_ := Aside0.mk (hbox); have n2_ := Aside0.mk ((by rw [hg]; exact (below_size (by repeat (first | (with_reducible first | exact HB.out | apply below_alloc | apply pw_below_drewN | apply below_drew1) | exact HB.out))) : w.heap.size ≤ gb156)); have n3_ := Aside0.mk ((by rw [hg]; exact (below_size (by repeat (first | (with_reducible first | exact HB.out | apply below_alloc | apply pw_below_drewN | apply below_drew1) | exact HB.out))) : w.heap.size ≤ gb156)); clear HB; have HB := n0_; have BK156 := n1_; have GW156 := n2_; have GE156 := n3_; clear n0_ n1_ n2_ n3_; clear hb hbox hg; have hcz20_0 : w19.cell? ⟨gb156, 0, none⟩ = some (.bool a1_0) := (blk_cell BK156.out 0).trans rfl; have hcz20_1 : w19.cell? ⟨gb156, 1, none⟩ = some (.bool a1_1) := (blk_cell BK156.out 1).trans rfl; have hcz20_2 : w19.cell? ⟨gb156, 2, none⟩ = some (.bool a1_2) := (blk_cell BK156.out 2).trans rfl; have hfz20_0 := blk_frozen BK156.out 0; have hfz20_1 := blk_frozen BK156.out 1; have hfz20_2 := blk_frozen BK156.out 2) | ((with_reducible refine gate_callee (f := 21) rfl ?_); refine goesL_ (some 17) rfl rfl Tryd.func21 (by kernel_rfl) rfl #[.agg #[.bool a1_0, .bool a1_1, .bool a1_2]] rfl (by (try simp only [List.map_toArray, List.map_cons, List.map_nil]); first | done | rfl | (simp only [List.length_drop, List.length_take]; rfl)) ?_; (with_reducible refine (laws_toRule.calls a1_0 a1_1 a1_2 t157 t158 t159 _ A5.out).mono ?_); rintro e w21 ⟨rfl, hb⟩; refine ⟨_, rfl, ?_⟩; have n0_ := Aside0.mk (blk_below (g := gb156) (o := .cells #[.bool a1_0, .bool a1_1, .bool a1_2] 29 (0, 0)) (by (with_reducible repeat (first | refine blk_drewN ?_ _ | refine blk_drew ?_ | refine blk_alloc ?_ _)); exact BK156.out) hb); have n1_ := Aside0.mk (below_step (by repeat (first | (with_reducible first | exact HB.out | apply below_alloc | apply pw_below_drewN | apply below_drew1 | refine below_set ?_ GE156.out) | exact HB.out)) hb); clear BK156; clear HB; have BK156 := n0_; have HB := n1_; clear n0_ n1_; (try clear hb); (try clear hb2); (try clear hk); (try clear hi)) | ((with_reducible refine gate_callee (f := 20) rfl ?_); refine goesL_ (some 18) rfl rfl Tryd.func20 (by kernel_rfl) rfl #[.string a0, .agg #[.bool t157, .bool t158, .bool t159]] rfl (by (try simp only [List.map_toArray, List.map_cons, List.map_nil]); first | done | rfl | (simp only [List.length_drop, List.length_take]; rfl)) ?_; (with_reducible refine (spec_FarthestByRule.calls k a0 t157 t158 t159 t160 t161 t162 _ A6.out).mono ?_); rintro e w22 ⟨rfl, hb⟩; refine ⟨_, rfl, ?_⟩; have n0_ := Aside0.mk (blk_below (g := gb156) (o := .cells #[.bool a1_0, .bool a1_1, .bool a1_2] 29 (0, 0)) (by (with_reducible repeat (first | refine blk_drewN ?_ _ | refine blk_drew ?_ | refine blk_alloc ?_ _)); exact BK156.out) hb); have n1_ := Aside0.mk (below_step (by repeat (first | (with_reducible first | exact HB.out | apply below_alloc | apply pw_below_drewN | apply below_drew1 | refine below_set ?_ GE156.out) | exact HB.out)) hb); clear BK156; clear HB; have BK156 := n0_; have HB := n1_; clear n0_ n1_; (try clear hb); (try clear hb2); (try clear hk); (try clear hi); have hcz23_0 : w22.cell? ⟨gb156, 0, none⟩ = some (.bool a1_0) := (blk_cell BK156.out 0).trans rfl; have hcz23_1 : w22.cell? ⟨gb156, 1, none⟩ = some (.bool a1_1) := (blk_cell BK156.out 1).trans rfl; have hcz23_2 : w22.cell? ⟨gb156, 2, none⟩ = some (.bool a1_2) := (blk_cell BK156.out 2).trans rfl; have hfz23_0 := blk_frozen BK156.out 0; have hfz23_1 := blk_frozen BK156.out 1; have hfz23_2 := blk_frozen BK156.out 2) | ((with_reducible refine gate_callee (f := 21) rfl ?_); refine goesL_ (some 25) rfl rfl Tryd.func21 (by kernel_rfl) rfl #[.agg #[.bool a1_0, .bool a1_1, .bool a1_2]] rfl (by (try simp only [List.map_toArray, List.map_cons, List.map_nil]); first | done | rfl | (simp only [List.length_drop, List.length_take]; rfl)) ?_; (with_reducible refine (laws_toRule.calls a1_0 a1_1 a1_2 t163 t164 t165 _ A7.out).mono ?_); rintro e w24 ⟨rfl, hb⟩; refine ⟨_, rfl, ?_⟩; have n0_ := Aside0.mk (blk_below (g := gb156) (o := .cells #[.bool a1_0, .bool a1_1, .bool a1_2] 29 (0, 0)) (by (with_reducible repeat (first | refine blk_drewN ?_ _ | refine blk_drew ?_ | refine blk_alloc ?_ _)); exact BK156.out) hb); have n1_ := Aside0.mk (below_step (by repeat (first | (with_reducible first | exact HB.out | apply below_alloc | apply pw_below_drewN | apply below_drew1 | refine below_set ?_ GE156.out) | exact HB.out)) hb); clear BK156; clear HB; have BK156 := n0_; have HB := n1_; clear n0_ n1_; (try clear hb); (try clear hb2); (try clear hk); (try clear hi)) | ((with_reducible refine gate_callee (f := 22) rfl ?_); refine goesL_ (some 26) rfl rfl Tryd.func22 (by kernel_rfl) rfl #[.string a0, .agg #[.bool t163, .bool t164, .bool t165]] rfl (by (try simp only [List.map_toArray, List.map_cons, List.map_nil]); first | done | rfl | (simp only [List.length_drop, List.length_take]; rfl)) ?_; (with_reducible refine (impl_FarthestByRule.calls a0 t163 t164 t165 t166 t167 t168 _ A8.out).mono ?_); rintro e w25 ⟨rfl, hb⟩; refine ⟨_, rfl, ?_⟩; have n0_ := Aside0.mk (blk_below (g := gb156) (o := .cells #[.bool a1_0, .bool a1_1, .bool a1_2] 29 (0, 0)) (by (with_reducible repeat (first | refine blk_drewN ?_ _ | refine blk_drew ?_ | refine blk_alloc ?_ _)); exact BK156.out) hb); have n1_ := Aside0.mk (below_step (by repeat (first | (with_reducible first | exact HB.out | apply below_alloc | apply pw_below_drewN | apply below_drew1 | refine below_set ?_ GE156.out) | exact HB.out)) hb); clear BK156; clear HB; have BK156 := n0_; have HB := n1_; clear n0_ n1_; (try clear hb); (try clear hb2); (try clear hk); (try clear hi)))
          go_ret
          exact ⟨by first | rfl | (simp [errW_none, errW_some] <;> rfl) | (simp [*, errW_none, errW_some] <;> rfl), by repeat (first | (with_reducible first | exact HB.out | apply below_alloc | apply pw_below_drewN | apply below_drew1 | refine below_set ?_ GE156.out) | exact HB.out)⟩
      · rw [if_neg c10] at H
        have c10b0 : (t167 == t161) = false := beq_eq_false_iff_ne.mpr c10
        have c10b1 : (t167 != t161) = true := bne_iff_ne.mpr c10
        obtain rfl := Option.some.inj H
        go_enter Tryd.func4, Tryd.ntmps4
        go_wp2_with (first | ((with_reducible refine gate_dst (N := 3) rfl ?_); refine box_event ?hg (N := 3) ?hd (cs := #[.bool a1_0, .bool a1_1, .bool a1_2]) (t := 29) ?hr ?_; (case hd => rfl); (case hg => rfl); (case hr => first | (go_simp; done) | (go_simp; rfl)); intro gb156 hg w26 hbox hb; have n0_ := Aside0.mk (below_step (by repeat (first | (with_reducible first | exact HB.out | apply below_alloc | apply pw_below_drewN | apply below_drew1) | exact HB.out)) hb); have n1_ := Aside0.mk (hbox); have n2_ := Aside0.mk ((by rw [hg]; exact (below_size (by repeat (first | (with_reducible first | exact HB.out | apply below_alloc | apply pw_below_drewN | apply below_drew1) | exact HB.out))) : w.heap.size ≤ gb156)); have n3_ := Aside0.mk ((by rw [hg]; exact (below_size (by repeat (first | (with_reducible first | exact HB.out | apply below_alloc | apply pw_below_drewN | apply below_drew1) | exact HB.out))) : w.heap.size ≤ gb156)); clear HB; have HB := n0_; have BK156 := n1_; have GW156 := n2_; have GE156 := n3_; clear n0_ n1_ n2_ n3_; clear hb hbox hg; have hcz27_0 : w26.cell? ⟨gb156, 0, none⟩ = some (.bool a1_0) := (blk_cell BK156.out 0).trans rfl; have hcz27_1 : w26.cell? ⟨gb156, 1, none⟩ = some (.bool a1_1) := (blk_cell BK156.out 1).trans rfl; have hcz27_2 : w26.cell? ⟨gb156, 2, none⟩ = some (.bool a1_2) := (blk_cell BK156.out 2).trans rfl; have hfz27_0 := blk_frozen BK156.out 0; have hfz27_1 := blk_frozen BK156.out 1; have hfz27_2 := blk_frozen BK156.out 2) | ((with_reducible refine gate_callee (f := 21) rfl ?_); refine goesL_ (some 17) rfl rfl Tryd.func21 (by kernel_rfl) rfl #[.agg #[.bool a1_0, .bool a1_1, .bool a1_2]] rfl (by (try simp only [List.map_toArray, List.map_cons, List.map_nil]); first | done | rfl | (simp only [List.length_drop, List.length_take]; rfl)) ?_; (with_reducible refine (laws_toRule.calls a1_0 a1_1 a1_2 t157 t158 t159 _ A5.out).mono ?_); rintro e w28 ⟨rfl, hb⟩; refine ⟨_, rfl, ?_⟩; have n0_ := Aside0.mk (blk_below (g := gb156) (o := .cells #[.bool a1_0, .bool a1_1, .bool a1_2] 29 (0, 0)) (by (with_reducible repeat (first | refine blk_drewN ?_ _ | refine blk_drew ?_ | refine blk_alloc ?_ _)); exact BK156.out) hb); have n1_ := Aside0.mk (below_step (by repeat (first | (with_reducible first | exact HB.out | apply below_alloc | apply pw_below_drewN | apply below_drew1 | refine below_set ?_ GE156.out) | exact HB.out)) hb); clear BK156; clear HB; have BK156 := n0_; have HB := n1_; clear n0_ n1_; (try clear hb); (try clear hb2); (try clear hk); (try clear hi)) | ((with_reducible refine gate_callee (f := 20) rfl ?_); refine goesL_ (some 18) rfl rfl Tryd.func20 (by kernel_rfl) rfl #[.string a0, .agg #[.bool t157, .bool t158, .bool t159]] rfl (by (try simp only [List.map_toArray, List.map_cons, List.map_nil]); first | done | rfl | (simp only [List.length_drop, List.length_take]; rfl)) ?_; (with_reducible refine (spec_FarthestByRule.calls k a0 t157 t158 t159 t160 t161 t162 _ A6.out).mono ?_); rintro e w29 ⟨rfl, hb⟩; refine ⟨_, rfl, ?_⟩; have n0_ := Aside0.mk (blk_below (g := gb156) (o := .cells #[.bool a1_0, .bool a1_1, .bool a1_2] 29 (0, 0)) (by (with_reducible repeat (first | refine blk_drewN ?_ _ | refine blk_drew ?_ | refine blk_alloc ?_ _)); exact BK156.out) hb); have n1_ := Aside0.mk (below_step (by repeat (first | (with_reducible first | exact HB.out | apply below_alloc | apply pw_below_drewN | apply below_drew1 | refine below_set ?_ GE156.out) | exact HB.out)) hb); clear BK156; clear HB; have BK156 := n0_; have HB := n1_; clear n0_ n1_; (try clear hb); (try clear hb2); (try clear hk); (try clear hi); have hcz30_0 : w29.cell? ⟨gb156, 0, none⟩ = some (.bool a1_0) := (blk_cell BK156.out 0).trans rfl; have hcz30_1 : w29.cell? ⟨gb156, 1, none⟩ = some (.bool a1_1) := (blk_cell BK156.out 1).trans rfl; have hcz30_2 : w29.cell? ⟨gb156, 2, none⟩ = some (.bool a1_2) := (blk_cell BK156.out 2).trans rfl; have hfz30_0 := blk_frozen BK156.out 0; have hfz30_1 := blk_frozen BK156.out 1; have hfz30_2 := blk_frozen BK156.out 2) | ((with_reducible refine gate_callee (f := 21) rfl ?_); refine goesL_ (some 25) rfl rfl Tryd.func21 (by kernel_rfl) rfl #[.agg #[.bool a1_0, .bool a1_1, .bool a1_2]] rfl (by (try simp only [List.map_toArray, List.map_cons, List.map_nil]); first | done | rfl | (simp only [List.length_drop, List.length_take]; rfl)) ?_; (with_reducible refine (laws_toRule.calls a1_0 a1_1 a1_2 t163 t164 t165 _ A7.out).mono ?_); rintro e w31 ⟨rfl, hb⟩; refine ⟨_, rfl, ?_⟩; have n0_ := Aside0.mk (blk_below (g := gb156) (o := .cells #[.bool a1_0, .bool a1_1, .bool a1_2] 29 (0, 0)) (by (with_reducible repeat (first | refine blk_drewN ?_ _ | refine blk_drew ?_ | refine blk_alloc ?_ _)); exact BK156.out) hb); have n1_ := Aside0.mk (below_step (by repeat (first | (with_reducible first | exact HB.out | apply below_alloc | apply pw_below_drewN | apply below_drew1 | refine below_set ?_ GE156.out) | exact HB.out)) hb); clear BK156; clear HB; have BK156 := n0_; have HB := n1_; clear n0_ n1_; (try clear hb); (try clear hb2); (try clear hk); (try clear hi)) | ((with_reducible refine gate_callee (f := 22) rfl ?_); refine goesL_ (some 26) rfl rfl Tryd.func22 (by kernel_rfl) rfl #[.string a0, .agg #[.bool t163, .bool t164, .bool t165]] rfl (by (try simp only [List.map_toArray, List.map_cons, List.map_nil]); first | done | rfl | (simp only [List.length_drop, List.length_take]; rfl)) ?_; (with_reducible refine (impl_FarthestByRule.calls a0 t163 t164 t165 t166 t167 t168 _ A8.out).mono ?_); rintro e w32 ⟨rfl, hb⟩; refine ⟨_, rfl, ?_⟩; have n0_ := Aside0.mk (blk_below (g := gb156) (o := .cells #[.bool a1_0, .bool a1_1, .bool a1_2] 29 (0, 0)) (by (with_reducible repeat (first | refine blk_drewN ?_ _ | refine blk_drew ?_ | refine blk_alloc ?_ _)); exact BK156.out) hb); have n1_ := Aside0.mk (below_step (by repeat (first | (with_reducible first | exact HB.out | apply below_alloc | apply pw_below_drewN | apply below_drew1 | refine below_set ?_ GE156.out) | exact HB.out)) hb); clear BK156; clear HB; have BK156 := n0_; have HB := n1_; clear n0_ n1_; (try clear hb); (try clear hb2); (try clear hk); (try clear hi)))
        go_ret
        exact ⟨by first | rfl | (simp [errW_none, errW_some] <;> rfl) | (simp [*, errW_none, errW_some] <;> rfl), by repeat (first | (with_reducible first | exact HB.out | apply below_alloc | apply pw_below_drewN | apply below_drew1 | refine below_set ?_ GE156.out) | exact HB.out)⟩
    · rw [if_neg c9] at H
      have c9b0 : (t166.toList == t160.toList) = false := beq_eq_false_iff_ne.mpr c9
      have c9b1 : (t166.toList != t160.toList) = true := bne_iff_ne.mpr c9
      obtain rfl := Option.some.inj H
      go_enter Tryd.func4, Tryd.ntmps4
      go_wp2_with (first | ((with_reducible refine gate_dst (N := 3) rfl ?_); refine box_event ?hg (N := 3) ?hd (cs := #[.bool a1_0, .bool a1_1, .bool a1_2]) (t := 29) ?hr ?_; (case hd => rfl); (case hg => rfl); (case hr => first | (go_simp; done) | (go_simp; rfl)); intro gb156 hg w33 hbox hb; have n0_ := Aside0.mk (below_step (by repeat (first | (with_reducible first | exact HB.out | apply below_alloc | apply pw_below_drewN | apply below_drew1) | exact HB.out)) hb); have n1_ := Aside0.mk (hbox); have n2_ := Aside0.mk ((by rw [hg]; exact (below_size (by repeat (first | (with_reducible first | exact HB.out | apply below_alloc | apply pw_below_drewN | apply below_drew1) | exact HB.out))) : w.heap.size ≤ gb156)); have n3_ := Aside0.mk ((by rw [hg]; exact (below_size (by repeat (first | (with_reducible first | exact HB.out | apply below_alloc | apply pw_below_drewN | apply below_drew1) | exact HB.out))) : w.heap.size ≤ gb156)); clear HB; have HB := n0_; have BK156 := n1_; have GW156 := n2_; have GE156 := n3_; clear n0_ n1_ n2_ n3_; clear hb hbox hg; have hcz34_0 : w33.cell? ⟨gb156, 0, none⟩ = some (.bool a1_0) := (blk_cell BK156.out 0).trans rfl; have hcz34_1 : w33.cell? ⟨gb156, 1, none⟩ = some (.bool a1_1) := (blk_cell BK156.out 1).trans rfl; have hcz34_2 : w33.cell? ⟨gb156, 2, none⟩ = some (.bool a1_2) := (blk_cell BK156.out 2).trans rfl; have hfz34_0 := blk_frozen BK156.out 0; have hfz34_1 := blk_frozen BK156.out 1; have hfz34_2 := blk_frozen BK156.out 2) | ((with_reducible refine gate_callee (f := 21) rfl ?_); refine goesL_ (some 17) rfl rfl Tryd.func21 (by kernel_rfl) rfl #[.agg #[.bool a1_0, .bool a1_1, .bool a1_2]] rfl (by (try simp only [List.map_toArray, List.map_cons, List.map_nil]); first | done | rfl | (simp only [List.length_drop, List.length_take]; rfl)) ?_; (with_reducible refine (laws_toRule.calls a1_0 a1_1 a1_2 t157 t158 t159 _ A5.out).mono ?_); rintro e w35 ⟨rfl, hb⟩; refine ⟨_, rfl, ?_⟩; have n0_ := Aside0.mk (blk_below (g := gb156) (o := .cells #[.bool a1_0, .bool a1_1, .bool a1_2] 29 (0, 0)) (by (with_reducible repeat (first | refine blk_drewN ?_ _ | refine blk_drew ?_ | refine blk_alloc ?_ _)); exact BK156.out) hb); have n1_ := Aside0.mk (below_step (by repeat (first | (with_reducible first | exact HB.out | apply below_alloc | apply pw_below_drewN | apply below_drew1 | refine below_set ?_ GE156.out) | exact HB.out)) hb); clear BK156; clear HB; have BK156 := n0_; have HB := n1_; clear n0_ n1_; (try clear hb); (try clear hb2); (try clear hk); (try clear hi)) | ((with_reducible refine gate_callee (f := 20) rfl ?_); refine goesL_ (some 18) rfl rfl Tryd.func20 (by kernel_rfl) rfl #[.string a0, .agg #[.bool t157, .bool t158, .bool t159]] rfl (by (try simp only [List.map_toArray, List.map_cons, List.map_nil]); first | done | rfl | (simp only [List.length_drop, List.length_take]; rfl)) ?_; (with_reducible refine (spec_FarthestByRule.calls k a0 t157 t158 t159 t160 t161 t162 _ A6.out).mono ?_); rintro e w36 ⟨rfl, hb⟩; refine ⟨_, rfl, ?_⟩; have n0_ := Aside0.mk (blk_below (g := gb156) (o := .cells #[.bool a1_0, .bool a1_1, .bool a1_2] 29 (0, 0)) (by (with_reducible repeat (first | refine blk_drewN ?_ _ | refine blk_drew ?_ | refine blk_alloc ?_ _)); exact BK156.out) hb); have n1_ := Aside0.mk (below_step (by repeat (first | (with_reducible first | exact HB.out | apply below_alloc | apply pw_below_drewN | apply below_drew1 | refine below_set ?_ GE156.out) | exact HB.out)) hb); clear BK156; clear HB; have BK156 := n0_; have HB := n1_; clear n0_ n1_; (try clear hb); (try clear hb2); (try clear hk); (try clear hi); have hcz37_0 : w36.cell? ⟨gb156, 0, none⟩ = some (.bool a1_0) := (blk_cell BK156.out 0).trans rfl; have hcz37_1 : w36.cell? ⟨gb156, 1, none⟩ = some (.bool a1_1) := (blk_cell BK156.out 1).trans rfl; have hcz37_2 : w36.cell? ⟨gb156, 2, none⟩ = some (.bool a1_2) := (blk_cell BK156.out 2).trans rfl; have hfz37_0 := blk_frozen BK156.out 0; have hfz37_1 := blk_frozen BK156.out 1; have hfz37_2 := blk_frozen BK156.out 2) | ((with_reducible refine gate_callee (f := 21) rfl ?_); refine goesL_ (some 25) rfl rfl Tryd.func21 (by kernel_rfl) rfl #[.agg #[.bool a1_0, .bool a1_1, .bool a1_2]] rfl (by (try simp only [List.map_toArray, List.map_cons, List.map_nil]); first | done | rfl | (simp only [List.length_drop, List.length_take]; rfl)) ?_; (with_reducible refine (laws_toRule.calls a1_0 a1_1 a1_2 t163 t164 t165 _ A7.out).mono ?_); rintro e w38 ⟨rfl, hb⟩; refine ⟨_, rfl, ?_⟩; have n0_ := Aside0.mk (blk_below (g := gb156) (o := .cells #[.bool a1_0, .bool a1_1, .bool a1_2] 29 (0, 0)) (by (with_reducible repeat (first | refine blk_drewN ?_ _ | refine blk_drew ?_ | refine blk_alloc ?_ _)); exact BK156.out) hb); have n1_ := Aside0.mk (below_step (by repeat (first | (with_reducible first | exact HB.out | apply below_alloc | apply pw_below_drewN | apply below_drew1 | refine below_set ?_ GE156.out) | exact HB.out)) hb); clear BK156; clear HB; have BK156 := n0_; have HB := n1_; clear n0_ n1_; (try clear hb); (try clear hb2); (try clear hk); (try clear hi)) | ((with_reducible refine gate_callee (f := 22) rfl ?_); refine goesL_ (some 26) rfl rfl Tryd.func22 (by kernel_rfl) rfl #[.string a0, .agg #[.bool t163, .bool t164, .bool t165]] rfl (by (try simp only [List.map_toArray, List.map_cons, List.map_nil]); first | done | rfl | (simp only [List.length_drop, List.length_take]; rfl)) ?_; (with_reducible refine (impl_FarthestByRule.calls a0 t163 t164 t165 t166 t167 t168 _ A8.out).mono ?_); rintro e w39 ⟨rfl, hb⟩; refine ⟨_, rfl, ?_⟩; have n0_ := Aside0.mk (blk_below (g := gb156) (o := .cells #[.bool a1_0, .bool a1_1, .bool a1_2] 29 (0, 0)) (by (with_reducible repeat (first | refine blk_drewN ?_ _ | refine blk_drew ?_ | refine blk_alloc ?_ _)); exact BK156.out) hb); have n1_ := Aside0.mk (below_step (by repeat (first | (with_reducible first | exact HB.out | apply below_alloc | apply pw_below_drewN | apply below_drew1 | refine below_set ?_ GE156.out) | exact HB.out)) hb); clear BK156; clear HB; have BK156 := n0_; have HB := n1_; clear n0_ n1_; (try clear hb); (try clear hb2); (try clear hk); (try clear hi)))
      go_ret
      exact ⟨by first | rfl | (simp [errW_none, errW_some] <;> rfl) | (simp [*, errW_none, errW_some] <;> rfl), by repeat (first | (with_reducible first | exact HB.out | apply below_alloc | apply pw_below_drewN | apply below_drew1 | refine below_set ?_ GE156.out) | exact HB.out)⟩

end Go.Proofs.YtjgijaocinpkhaaDoor.XU
