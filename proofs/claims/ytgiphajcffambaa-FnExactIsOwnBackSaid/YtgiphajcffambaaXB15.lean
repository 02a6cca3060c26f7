/- The Lean functions that the Go functions of this seat compute, each with the proof that the Go function computes it, for every input (laws: FnExactBackExchange, FnExactIsOwnBack). Conditions: none beyond those that each theorem names. Written by a program of this session over the kit's printer. -/
import Derived.Test.YtgiphajcffambaaXB0
import Derived.Test.YtgiphajcffambaaXB12
import Derived.Test.YtgiphajcffambaaXB13
import Derived.Test.YtgiphajcffambaaXB14
namespace Go.Proofs.Ytgiphajcffambaa.XB
open Go.RowKit Go.Proofs.YtgiphajcffambaaW.PrintWords Go.Proofs.YtgiphajcffambaaW.PrintLast Go.Proofs.YtgiphajcffambaaW.PrintMore
attribute [local go_sem] max2_int min2_int max_two min_two max_three min_three max_four min_four   -- for this text's walks alone
attribute [local go_sem] Lib.run_min_strs Go.Proofs.YtgiphajcffambaaXW.run_min2_strs Go.Proofs.YtgiphajcffambaaXW.run_int_string
set_option linter.unusedVariables false
set_option linter.unusedSimpArgs false

/-! ### impl_IsExchange: function 9 (given) -/
section
open Go Go.RowKit Go.Lib Go.Proofs.YtgiphajcffambaaW.PrintWords Go.Proofs.YtgiphajcffambaaW.PrintLast
theorem impl_IsExchange.pays (w : World) : ∀ (W : World) (s : ByteArray) (f t : Int) (b : Bool), Below w.heap.size w W → impl_can.f s f t = some b → Calls Try.prog 23 (#[.string s, .agg #[.int .i64 f, .int .i64 t]] ++ #[]) W fun e W' => e = .returned (.bool b) ∧ Below W.heap.size W W' :=
  fun W s f t b _ h => impl_can.calls s f t b W h
theorem impl_IsExchange.enters : Enters Try.prog 23 := enters_of Try.func23 (by kernel_rfl) rfl
set_option maxHeartbeats 4000000 in
set_option maxRecDepth 1000000 in
theorem impl_IsExchange.no_ (a0 a1 a2 : Int) (A : Option Addr) (cap : Nat) (l : List S35) (w : World) (hI : impl_areCounts.f a0 a1 a2 8 = some false) :
    Calls Try.prog 9 #[.int .i64 a0, .int .i64 a1, .int .i64 a2, .slice A l.length cap] w fun e w' => e = .returned (.tuple #[.bool false, .bool false]) ∧ Below w.heap.size w w' := by
  go_enter Try.func9, Try.ntmps9
  go_wp2_with (first
    | (go_at_call 20; refine (impl_areCounts.calls a0 a1 a2 8 false _ hI).mono ?_; rintro e w1 ⟨rfl, hx⟩; have hb1 := hx.below; clear hx))
  go_ret2
  exact ⟨rfl, hb1⟩
set_option maxHeartbeats 4000000 in
set_option maxRecDepth 1000000 in
theorem impl_IsExchange.long_ (a0 a1 a2 : Int) (A : Option Addr) (cap : Nat) (l : List S35) (w : World) (hI : impl_areCounts.f a0 a1 a2 8 = some true) (hl : 100 < l.length) :
    Calls Try.prog 9 #[.int .i64 a0, .int .i64 a1, .int .i64 a2, .slice A l.length cap] w fun e w' => e = .returned (.tuple #[.bool false, .bool false]) ∧ Below w.heap.size w w' := by
  have hd : decide ((100 : Int) < (l.length : Int)) = true := decide_eq_true (by omega)
  have hd2 : decide (100 < l.length) = true := decide_eq_true hl
  clear hl
  go_enter Try.func9, Try.ntmps9
  go_wp2_with (first
    | (go_at_call 20; refine (impl_areCounts.calls a0 a1 a2 8 true _ hI).mono ?_; rintro e w1 ⟨rfl, hx⟩; have hb1 := hx.below; clear hx))
  go_ret2
  exact ⟨rfl, hb1⟩
set_option maxHeartbeats 4000000 in
set_option maxRecDepth 1000000 in
theorem impl_IsExchange.walk (a0 a1 a2 : Int) (A : Option Addr) (cap : Nat) (l : List S35) (s z r1 : ByteArray) (r2 : Int) (w : World) (hI : impl_areCounts.f a0 a1 a2 8 = some true) (hl : l.length ≤ 100) (hr : Kd.C k35 w A l.length l)
    (hf : impl_first.f a0 a1 a2 = some s) (hp : playL impl_can.f l s 0 = some (r1, r2)) (hz : impl_last.f s = some z) :
    Calls Try.prog 9 #[.int .i64 a0, .int .i64 a1, .int .i64 a2, .slice A l.length cap] w fun e w' => e = .returned (.tuple #[.bool (r1.toList == z.toList), .bool true]) ∧ Below w.heap.size w w' := by
  have hd : decide ((100 : Int) < (l.length : Int)) = false := decide_eq_false (by omega)
  have hd2 : decide (100 < l.length) = false := decide_eq_false (by omega)
  have HR := Aside0.mk hr
  have HL := Lib.hid hl
  clear hr hl
  go_enter Try.func9, Try.ntmps9
  go_wp2_with (first
    | (go_at_call 20; refine (impl_areCounts.calls a0 a1 a2 8 true _ hI).mono ?_; rintro e w1 ⟨rfl, hx⟩; have hb1 := hx.below; clear hx)
    | (go_at_call 21; refine (impl_first.calls a0 a1 a2 s _ hf).mono ?_; rintro e w2 ⟨rfl, hx⟩; have hb2 := below_step hb1 hx; clear hx)
    | (go_at_call 22; refine (impl_played.walk 23 #[] impl_IsExchange.enters impl_can.f s A cap l r1 r2 _ (impl_IsExchange.pays _) (by have := HL.out; omega) (Kd.C_below HR.out hb2) hp).mono ?_; rintro e w3 ⟨rfl, hx⟩; have hb3 := below_step hb2 hx; clear hx)
    | (go_at_call 24; refine (impl_last.calls s z _ hz).mono ?_; rintro e w4 ⟨rfl, hx⟩; have hb4 := below_step hb3 hx; clear hx))
  go_ret2
  exact ⟨rfl, hb4⟩
end
/-- whether moves are an exchange -/
def impl_IsExchange.f (a0 a1 a2 : Int) (l3 : List (S35)) : Option (Bool × Bool) := (impl_areCounts.f a0 a1 a2 8).bind fun b => if b = true then (if 100 < l3.length then some (false, false) else ((impl_first.f a0 a1 a2).bind fun s => ((playL impl_can.f l3 s 0).bind fun r => ((impl_last.f s).bind fun z => some (r.1.toList == z.toList, true))))) else some (false, false)
theorem impl_IsExchange.calls (a0 a1 a2 : Int) (A1 : Option Addr) (c1 : Nat) (l1 : List (S35)) (r1 : Bool) (r2 : Bool) (w : World) (hr1 : Kd.C k35 w A1 l1.length l1) (hc1 : l1.length ≤ c1) (h : impl_IsExchange.f a0 a1 a2 l1 = some (r1, r2)) :
    Calls Try.prog 9 #[.int .i64 a0, .int .i64 a1, .int .i64 a2, .slice A1 l1.length c1] w fun e w' => e = .returned (.tuple #[.bool r1, .bool r2]) ∧ Below w.heap.size w w' := by
  unfold impl_IsExchange.f at h
  obtain ⟨b, hb, h⟩ := Option.bind_eq_some_iff.mp h
  cases b with
  | false =>
    rw [if_neg (by decide)] at h
    cases h
    exact impl_IsExchange.no_ a0 a1 a2 A1 c1 l1 w hb
  | true =>
    rw [if_pos rfl] at h
    by_cases hl : 100 < l1.length
    · rw [if_pos hl] at h
      cases h
      exact impl_IsExchange.long_ a0 a1 a2 A1 c1 l1 w hb hl
    · rw [if_neg hl] at h
      obtain ⟨s, hs, h⟩ := Option.bind_eq_some_iff.mp h
      obtain ⟨⟨p, q⟩, hp, h⟩ := Option.bind_eq_some_iff.mp h
      obtain ⟨z, hz, h⟩ := Option.bind_eq_some_iff.mp h
      cases h
      exact impl_IsExchange.walk a0 a1 a2 A1 c1 l1 s z p q w hb (by omega) hr1 hs hp hz


/-! ### impl_BackExchange: function 14 (given) -/
section
open Go Go.RowKit Go.Lib Go.Shelf Go.Proofs.YtgiphajcffambaaW.PrintWords Go.Proofs.YtgiphajcffambaaW.PrintLast
attribute [local go_sem] Oper.semAt_some
abbrev Mv := S35
def swp (m : Mv) : Mv := ⟨m.f1, m.f0⟩
/-- what comes in the k-th round of a walk from the end -/
def bkAt (l : List Mv) (k : Nat) : Int × Mv := (((l.length - 1 - k : Nat) : Int), rd_T35 l ((l.length - 1 - k : Nat) : Int))
def bkTo (l : List Mv) (k : Nat) : List (Int × Mv) := (List.range k).map (bkAt l)
theorem bkTo_succ (l : List Mv) (k : Nat) : bkTo l (k + 1) = bkTo l k ++ [bkAt l k] := by simp [bkTo, List.range_succ]
theorem bkTo_length (l : List Mv) (k : Nat) : (bkTo l k).length = k := by simp [bkTo]
/-- what a round keeps: what lay below, and the box of the row -/
def KpB (n₀ Bs : Nat) (A B : World) : Prop := Below n₀ A B ∧ B.heap[Bs]? = A.heap[Bs]?
theorem KpB.t {n₀ Bs : Nat} {A B C : World} (h : KpB n₀ Bs A B) (k : KpB n₀ Bs B C) : KpB n₀ Bs A C := ⟨h.1.trans k.1, k.2.trans h.2⟩
theorem KpB.b {n₀ Bs : Nat} {w : World} (hn : n₀ ≤ w.heap.size) (hb : Bs < w.heap.size) (W : World) (l : Nat) (o o' : Obj) (hl : w.heap.size ≤ l) (h : W.heap[l]? = some o) (h1 : o.isCells = false) (h2 : o.isWalk = false) : KpB n₀ Bs W (W.putObj l o') := by
  refine ⟨belowK_b hn W l o o' hl h h1 h2, ?_⟩
  refine (grownBy_putObj' W l o').block Bs ?_ ?_
  · have := (Array.getElem?_eq_some_iff.1 h).1; omega
  · intro e; cases e; omega
theorem KpB.cell {n₀ Bs : Nat} {A B : World} (h : KpB n₀ Bs A B) (j : Nat) : B.cell? ⟨Bs, j, none⟩ = A.cell? ⟨Bs, j, none⟩ := by simp only [World.cell?, h.2]
set_option maxRecDepth 100000 in
set_option maxHeartbeats 2000000 in
theorem back1_in (F : Fence) (n : Nat) (hf : F.fn 38) (hro : F.round = none) (hn : 1 ≤ n) (lp Bs : Nat) (w0 : World) (A : Option Addr) (cap : Nat) (l : List Mv) (hr : Kd.C k35 w0 A l.length l) (hreach : l.length * 16 ≤ 140737488351232)
    (J Jx : List (Int × Mv) → World → Prop)
    (hY : ∀ pre x W, J pre W → pre.length < l.length → YieldAt F (n - 1) Try.prog lp #[.int .i64 x.1, .agg #[.int .i64 x.2.f0, .int .i64 x.2.f1]] W fun e W' =>
      (e = .returned (.bool true) ∧ J (pre ++ [x]) W' ∧ KpB w0.heap.size Bs W W') ∨ (e = .returned (.bool false) ∧ Jx (pre ++ [x]) W'))
    (W : World) (hW : Below w0.heap.size w0 W) (hBs : W.cell? ⟨Bs, 0, none⟩ = some (.slice A l.length cap)) (h0 : J [] W) :
    CallsIn F n Try.prog 38 #[.func (.yield lp) #[] #[], .pointer (some ⟨Bs, 0, none⟩)] W fun e W' => (∃ v, e = .returned v) ∧
      ((∃ ys, ys = bkTo l l.length ∧ J ys W') ∨ (∃ pre, True ∧ Jx pre W')) := by
  have HR := Aside0.mk hr
  have HY := Aside0.mk hY
  clear hr hY
  refine callsIn_of_wp Try.func38 rfl hf ?_ hro
  simp only [Try.ntmps38, List.size_toArray, List.length_cons, List.length_nil, Nat.reduceAdd, Nat.reduceSub, Array.replicate_succ, Array.replicate_zero, List.push_toArray, List.append_toArray, List.nil_append, List.cons_append]
  have hl64 : l.length < 2 ^ 62 := by omega
  gi_wp2
  gi_loopw [3] (fun i wr => ∃ k : Nat, k ≤ l.length ∧ i = .int .i64 ((l.length : Int) - 1 - k) ∧ J (bkTo l k) wr ∧ Below w0.heap.size w0 wr ∧ wr.cell? ⟨Bs, 0, none⟩ = some (.slice A l.length cap))
    (fun i _ => (RowKit.intOf i + 1).toNat)
  case atStart => exact ⟨0, Nat.zero_le _, by simp, h0, hW, hBs⟩
  case round =>
    obtain ⟨k, hk, rfl, hJs, hB, hb⟩ := hrel
    by_cases hlt : k < l.length
    · obtain ⟨q, hq⟩ : ∃ q : Nat, q = l.length - 1 - k := ⟨_, rfl⟩
      have hqi : (l.length : Int) - 1 - k = (q : Int) := by omega
      rw [hqi]
      have hd1 : decide ((q : Int) ≥ 0) = true := decide_eq_true (by omega)
      have hd2 : decide ((0 : Int) ≤ (q : Int)) = true := decide_eq_true (by omega)
      obtain ⟨ad, ead, hx0, hx1⟩ := at_T35 HR.out (q : Int) (by omega) (by omega)
      rw [Int.toNat_natCast] at hx0 hx1
      cases ead
      replace hx0 := (hB.cell (World.block_lt_of_cell? w0 _ hx0)).trans hx0
      replace hx1 := (hB.cell (World.block_lt_of_cell? w0 _ hx1)).trans hx1
      obtain ⟨fn, tmps, assign, body, hy, hR⟩ := HY.out _ (bkAt l k) wr hJs (by rw [bkTo_length]; exact hlt)
      have hbk : bkAt l k = ((q : Int), rd_T35 l (q : Int)) := by unfold bkAt; rw [← hq]
      have hsu := bkTo_succ l k
      rw [hbk] at hy hR hsu
      dsimp only at hy
      generalize rd_T35 l (q : Int) = m at *
      have HQ := Lib.hid hq
      have HK := Lib.hid hbk
      clear hq hbk
      gi_wp2
      refine hR.mono ?_
      rintro e W3 (⟨rfl, hJ3, hk3⟩ | ⟨rfl, hJx3⟩)
      · have hb3 := (hk3.cell 0).trans hb
        gi_wp2
        go_roundw
        case rel => exact ⟨k + 1, by omega, by simp; omega, by rw [hsu]; exact hJ3, hB.trans hk3.1, hb3⟩
        case measure => simp [RowKit.intOf]
      · gi_wp2
        refine bodyPost_ret (results_none rfl _ _ _) rfl ?_
        exact ⟨⟨_, rfl⟩, .inr ⟨_, trivial, hJx3⟩⟩
    · obtain rfl : k = l.length := by omega
      have hqi : (l.length : Int) - 1 - l.length = -1 := by omega
      rw [hqi]
      gi_wp2
      go_end0
      exact ⟨⟨_, rfl⟩, .inl ⟨_, rfl, hJs⟩⟩
set_option maxHeartbeats 1000000 in
theorem back_in (F : Fence) (n : Nat) (h5 : F.fn 28) (hro : F.round = none) (a : Option Addr) (len cap : Nat) (w : World) :
    CallsIn F n Try.prog 28 #[.slice a len cap] w fun e w' => e = .returned (.func (.func 38) #[] #[.pointer (some ⟨w.heap.size, 0, none⟩)]) ∧ w' = w.alloc (.cells #[.slice a len cap] 26) := by
  refine callsIn_of_wp Try.func28 rfl h5 ?_ hro
  simp only [Try.ntmps28, List.size_toArray, List.length_cons, List.length_nil, Nat.reduceAdd, Nat.reduceSub, Array.replicate_succ, Array.replicate_zero, List.push_toArray, List.append_toArray, List.nil_append, List.cons_append]
  gi_wp2
  go_ret
  exact ⟨rfl, rfl⟩
theorem back_stops (F : Fence) (n : Nat) (hf : F.fn 38) (hro : F.round = none) (hn : 1 ≤ n) (Bs : Nat) (w0 : World) (A : Option Addr) (cap : Nat) (l : List Mv) (hr : Kd.C k35 w0 A l.length l) (hreach : l.length * 16 ≤ 140737488351232) (w : World) (hB : Bs < w.heap.size) (hw : Below w0.heap.size w0 w)
    (hc : w.cell? ⟨Bs, 0, none⟩ = some (.slice A l.length cap)) :
    SeqStopsK F n Try.prog 38 #[.pointer (some ⟨Bs, 0, none⟩)] (fun x : Int × Mv => #[.int .i64 x.1, .agg #[.int .i64 x.2.f0, .int .i64 x.2.f1]]) (KpB w0.heap.size Bs) (fun ys => ys = bkTo l l.length) (fun _ => True) l.length w := fun lp J Jx W hW _ _ hY h0 =>
  back1_in F n hf hro hn lp Bs w0 A cap l hr hreach J Jx hY W (hw.trans (hW.mono hw.size)) ((hW.cell (p := ⟨Bs, 0, none⟩) hB).trans hc) h0
def flM (xs : List Mv) : List Value := xs.flatMap fun m => [.int .i64 m.f0, .int .i64 m.f1]
theorem flM_snoc (xs : List Mv) (m : Mv) : flM (xs ++ [m]) = flM xs ++ [.int .i64 m.f0, .int .i64 m.f1] := by simp [flM]
theorem flM_reps (w : World) (base : Nat) (ok : Nat → Prop) : ∀ xs : List Mv, Reps (k35.M w base ok) 2 xs (flM xs)
  | [] => Reps.none _ _
  | x :: xs => by
    have h1 : Reps (k35.M w base ok) 2 ([] ++ [x]) ([] ++ [.int .i64 x.f0, .int .i64 x.f1]) := (Reps.none _ _).snoc (k35_mkM w base ok x) rfl
    exact Kd.reps_append h1 (flM_reps w base ok xs)
theorem cell_two_new (W : World) (a b : Value) (t : TypeId) : ∀ (j : Nat) (u : Value), [a, b][j]? = some u → (W.alloc (.cells #[a, b] t)).cell? ((⟨W.heap.size, 0, none⟩ : Addr).add j) = some u
  | 0, u, h => by cases h; exact (blk_cell (blk_new W (.cells #[a, b] t (0, 0))) 0).trans rfl
  | 1, u, h => by cases h; exact (blk_cell (blk_new W (.cells #[a, b] t (0, 0))) 1).trans rfl
  | j + 2, u, h => by simp at h
/-- what holds between two rounds -/
structure BkI (w : World) (B Bs : Nat) (sv : Value) (pre : List (Int × Mv)) (W : World) : Prop where
  ex : ∃ v, Boxed W B 26 v ∧ W.ownsRow w.heap.size 35 2 v pre.length (flM (pre.map fun x => swp x.2)) ∧ True
  bs : Boxed W Bs 26 sv
  bl : Below w.heap.size w W
theorem BkI.own (w : World) (B Bs D : Nat) (sv : Value) (hD : w.heap.size ≤ D) : OwnFrom D (BkI w B Bs sv) := by
  intro s X Y row hs hg hr
  have hr' : ∀ r, row = some r → ∃ o : Obj, X.heap[r]? = some o ∧ o.isCells = false := fun r e => (hr r e).2
  exact ⟨holdsRow_own w.heap.size B 26 35 2 (fun pre : List (Int × Mv) => pre.length) (fun pre => flM (pre.map fun x => swp x.2)) (fun _ _ => True) s X Y row hs.ex hg hr', boxed_own Bs 26 (fun (_ : Unit) => sv) () X Y row hs.bs hg hr', ownFrom_below (β := Unit) (Nat.le_refl _) hD () X Y row hs.bl hg hr⟩
/-- a round's own variable -/
structure BkA (T : Nat → Int → Mv → Array Value) (x : Int × Mv) (a' : Act) (W : World) : Prop where
  ex : ∃ Bx, W.heap[Bx]? = some (.cells #[.int .i64 x.2.f0, .int .i64 x.2.f1] 35 (0, 0)) ∧ a' = { tmps := T Bx x.1 x.2, defers := [] }
theorem BkA.own (T : Nat → Int → Mv → Array Value) (D : Nat) (x : Int × Mv) (a' : Act) : OwnFrom D (fun (_ : Unit) W => BkA T x a' W) := by
  intro _ X Y row hs hg hr
  obtain ⟨Bx, h1, h2⟩ := hs.ex
  refine ⟨Bx, (hg.block Bx (Array.getElem?_eq_some_iff.1 h1).1 ?_).trans h1, h2⟩
  intro e
  obtain ⟨_, o, ho, hc⟩ := hr Bx e.symm
  rw [h1] at ho; cases ho; cases hc
set_option maxHeartbeats 4000000 in
set_option maxRecDepth 1000000 in
theorem impl_BackExchange.no_ (a0 a1 a2 : Int) (A : Option Addr) (cap : Nat) (l : List Mv) (r2 : Bool) (w : World) (hc : l.length ≤ cap) (hr : Kd.C k35 w A l.length l) (hI : impl_IsExchange.f a0 a1 a2 l = some (false, r2)) :
    Calls Try.prog 14 #[.int .i64 a0, .int .i64 a1, .int .i64 a2, .slice A l.length cap] w fun e w' => e = .returned (.tuple #[.slice none 0 0, .bool false]) ∧ Below w.heap.size w w' := by
  have HI := Aside0.mk (impl_IsExchange.calls a0 a1 a2 A cap l false r2 w hr hc hI)
  clear hr hI hc
  go_enter Try.func14, Try.ntmps14
  go_wp2_with (first
    | (go_at_call 9; refine HI.out.mono ?_; rintro e w1 ⟨rfl, hb1⟩))
  go_ret2
  exact ⟨rfl, hb1⟩
set_option maxHeartbeats 4000000 in
set_option maxRecDepth 1000000 in
theorem impl_BackExchange.yes_ (a0 a1 a2 : Int) (A : Option Addr) (cap : Nat) (l : List Mv) (r2 : Bool) (w : World) (hc : l.length ≤ cap) (hll : l.length ≤ 100) (hr : Kd.C k35 w A l.length l) (hI : impl_IsExchange.f a0 a1 a2 l = some (true, r2)) :
    Calls Try.prog 14 #[.int .i64 a0, .int .i64 a1, .int .i64 a2, .slice A l.length cap] w fun e w' => (∃ v, e = .returned (.tuple #[v, .bool true]) ∧ Kd.R k35 35 w' w.heap.size (fun _ => True) v ((bkTo l l.length).map fun x => swp x.2)) ∧ Below w.heap.size w w' := by
  have HI := Aside0.mk (impl_IsExchange.calls a0 a1 a2 A cap l true r2 w hr hc hI)
  have HR := Aside0.mk hr
  clear hr hI hc
  refine (callsIn_wide (n := 9)).1 ?_
  refine callsIn_of_wp_marks Try.func14 rfl trivial ?_ rfl
  simp only [Try.ntmps14, List.size_toArray, List.length_cons, List.length_nil, Nat.reduceAdd, Nat.reduceSub, Array.replicate_succ, Array.replicate_zero, List.push_toArray, List.append_toArray, List.nil_append, List.cons_append]
  gi_wp2_with (first
    | (refine ⟨trivial, ?_⟩; gi_at_call 9; refine (callsIn_wide.2 HI.out).mono ?_; rintro e w1 ⟨rfl, hb1⟩)
    | (refine ⟨trivial, ?_⟩; gi_at_call 28; refine (back_in Fence.wide _ trivial rfl _ _ _ _).mono ?_; rintro e w' ⟨rfl, rfl⟩))
  have HW0 : ∃ W0, (((w1.alloc (.cells #[] 35)).alloc (.cells #[.slice (some ⟨w1.heap.size, 0, none⟩) 0 0] 26)).alloc (.cells #[.slice A l.length cap] 26)) = W0 := ⟨_, rfl⟩
  have own0 := World.ownsRow_lit (base := w.heap.size) (e := 35) (size := 2) w1 #[] 0 hb1.size (by decide) rfl
  have bB := (Boxed.new (w1.alloc (.cells #[] 35)) 26 (.slice (some ⟨w1.heap.size, 0, none⟩) 0 0)).alloc (.cells #[.slice A l.length cap] 26)
  have bS := Boxed.new ((w1.alloc (.cells #[] 35)).alloc (.cells #[.slice (some ⟨w1.heap.size, 0, none⟩) 0 0] 26)) 26 (.slice A l.length cap)
  have own1 := (own0.alloc (.cells #[.slice (some ⟨w1.heap.size, 0, none⟩) 0 0] 26)).alloc (.cells #[.slice A l.length cap] 26)
  have hs1 := hb1.size
  have hB0 : Below w.heap.size w (((w1.alloc (.cells #[] 35)).alloc (.cells #[.slice (some ⟨w1.heap.size, 0, none⟩) 0 0] 26)).alloc (.cells #[.slice A l.length cap] 26)) := ((hb1.alloc hs1 _).alloc (by simp; omega) _).alloc (by simp; omega) _
  have hsz : (((w1.alloc (.cells #[] 35)).alloc (.cells #[.slice (some ⟨w1.heap.size, 0, none⟩) 0 0] 26)).alloc (.cells #[.slice A l.length cap] 26)).heap.size = w1.heap.size + 3 := by simp
  simp only [World.size_alloc] at bB bS
  obtain ⟨W0, hW0⟩ := HW0
  rw [hW0] at bB bS own1 hB0 hsz ⊢
  clear hW0 own0
  have hi := info35
  obtain ⟨i0, hi, hz0, hz1, hz2⟩ := info_parts hi
  refine wpIn_rangeFunc_ownH rfl (by omega) (gf := 38) (lb := #[.pointer (some ⟨w1.heap.size + 1 + 1, 0, none⟩)]) rfl trivial (enters_of Try.func38 (by kernel_rfl) rfl)
    (back_stops Fence.wide _ trivial rfl (by omega) (w1.heap.size + 1 + 1) w A cap l HR.out (by omega) W0 (by omega) hB0 bS.cell) KpB.t (KpB.b (by omega) (by omega)) (Below.refl _ _) (fun _ => rfl)
    (BkI w (w1.heap.size + 1) (w1.heap.size + 1 + 1) (.slice A l.length cap))
    (fun _ _ _ => False)
    (BkI.own w _ _ _ _ (by omega))
    (fun _ _ _ _ _ hs _ _ => hs)
    ⟨⟨_, bB, own1, trivial⟩, bS, hB0⟩
    (BkA fun Bx i m => #[.int .i64 a0, .int .i64 a1, .int .i64 a2, .slice A l.length cap,
          undef, undef, undef, undef, .slice none 0 0, .bool false, .bool true, .bool r2,
          .pointer (some ⟨w1.heap.size + 1, 0, none⟩), undef, .pointer (some ⟨Bx, 0, none⟩),
          .tuple #[.bool true, .bool r2], .int .i64 a0, .int .i64 a1,
          .int .i64 a2, .slice A l.length cap, .tuple #[.bool true, .bool r2],
          .bool true, .bool r2, .bool true, .bool false,
          .slice (some ⟨w1.heap.size, 0, none⟩) 0 0, .slice A l.length cap,
          .func (.func 38) #[] #[.pointer (some ⟨w1.heap.size + 1 + 1, 0, none⟩)], .int .i64 i, .agg #[.int .i64 m.f0, .int .i64 m.f1],
          undef, undef, undef, undef, undef, undef, undef, undef, undef])
    (fun x a' => BkA.own _ _ x a')
    ?assign ?body ?done ?stop
  case assign =>
    rintro lp pre x W K hIW hK
    have hsW := hIW.bl.size
    have hlB := hIW.bs.lt
    gi_wp2
    refine hK _ _ ((KeepsOthers.alloc _ _).from _) ⟨(Below.refl _ W).alloc hsW _, Below.heap_alloc W _ _ hlB⟩ ?_ ⟨W.heap.size, World.alloc_heap_new W _, rfl⟩
    obtain ⟨⟨v, hv, hrow, _⟩, hbs, hbl⟩ := hIW
    exact ⟨⟨v, hv.alloc _, hrow.alloc _, trivial⟩, hbs.alloc _, hbl.alloc hsW _⟩
  case body =>
    rintro lp pre x a' W hl hrec hIW hA hlt
    obtain ⟨Bx, hx, rfl⟩ := hA.ex
    obtain ⟨⟨v, hv, hrow, _⟩, hbs, hbl⟩ := hIW
    have hsW := hbl.size
    have hcB := hv.cell
    have hc0 : W.cell? ⟨Bx, 0, none⟩ = some (.int .i64 x.2.f0) := (blk_cell hx 0).trans rfl
    have hc1 : W.cell? ⟨Bx, 1, none⟩ = some (.int .i64 x.2.f1) := (blk_cell hx 1).trans rfl
    gi_wp2_with (gi_at_builtin; refine wpListIn_append_own _ rfl _ _ 26 rfl w.heap.size 35 i0 _ 2 16 Try.underlying26 hi hz0 hz1 hz2 rfl (by decide) _ _ _ rfl (hrow.alloc _) ⟨W.heap.size, 0, none⟩ 1 1 [.int .i64 x.2.f1, .int .i64 x.2.f0] rfl rfl (cell_two_new _ _ _ _) (by simp [Value.oneCell']) (by simp [maxLen]; omega) (by omega) (by simp; omega) ?_; intro v' w2 hown' hgrow _; obtain ⟨g', cap', rfl⟩ := ownsRow_succ hown'; obtain ⟨hv1, hv2, hr2, hk2, hb2⟩ := hv.appended (by decide) hrow hsW (by omega) hown' hgrow; have hcc := hv1.cell; have hff := hv1.frozen; have hbs2 := ((hbs.alloc _).kept hgrow (hbs.not_row (by decide) hrow)).other (B' := w1.heap.size + 1) (by omega) (.slice (some ⟨g', 0, none⟩) (pre.length + 1) cap'))
    exact ⟨hk2.from _, ⟨hb2, hbs2.trans hbs.symm⟩, ⟨⟨_, hv2, by rw [List.map_append, List.length_append]; exact (flM_snoc _ _).symm ▸ hr2, trivial⟩, hbs2, hbl.trans hb2⟩⟩
  case done =>
    rintro D ys W hD rfl hIW hK
    obtain ⟨⟨v, hv, hrow, _⟩, hbs, hbl⟩ := hIW
    have hcB := hv.cell
    gi_wp2
    refine ⟨by simp, .inl ⟨_, _, rfl, run_takeDeferred hK, ?_⟩⟩
    have ho2 := ownsRow_putObj hrow (.deferred none) hK rfl
    refine ⟨_, results_tmp2 rfl _ _ _, ⟨_, rfl, ⟨fun _ _ => trivial, _, by rw [List.length_map]; exact ho2, flM_reps _ _ _ _⟩⟩, hbl.trans (belowK_b (w := W0) (by omega) W D _ _ (by omega) hK rfl rfl)⟩
  case stop =>
    rintro D c pre W _ _ h _
    exact h.elim
theorem bkTo_rev (l : List Mv) : (bkTo l l.length).map (fun x => swp x.2) = l.reverse.map swp := by
  apply List.ext_getElem
  · simp [bkTo]
  · intro i h1 h2
    have hi : i < l.length := by simpa [bkTo] using h1
    simp only [bkTo, List.map_map, List.getElem_map, List.getElem_range, List.getElem_reverse, Function.comp, bkAt]
    unfold rd_T35
    rw [Int.toNat_natCast, List.getD_eq_getElem?_getD, List.getElem?_eq_getElem (by omega)]
    rfl
theorem exLen (a0 a1 a2 : Int) (l : List Mv) (r : Bool) (h : impl_IsExchange.f a0 a1 a2 l = some (true, r)) : l.length ≤ 100 := by
  unfold impl_IsExchange.f at h
  obtain ⟨b, hb, h⟩ := Option.bind_eq_some_iff.mp h
  cases b with
  | false => rw [if_neg (by decide)] at h; cases h
  | true =>
    rw [if_pos rfl] at h
    by_cases hl : 100 < l.length
    · rw [if_pos hl] at h; cases h
    · omega
end
/-- an exchange from its end, toads and frogs told for each other -/
def impl_BackExchange.f (a0 a1 a2 : Int) (l3 : List (S35)) : Option (List (S35) × Bool) := (impl_IsExchange.f a0 a1 a2 l3).bind fun r => if r.1 = true then some (l3.reverse.map swp, true) else some ([], false)
theorem impl_BackExchange.calls (a0 a1 a2 : Int) (A1 : Option Addr) (c1 : Nat) (l1 : List (S35)) (r1 : List (S35)) (r2 : Bool) (w : World) (hr1 : Go.Proofs.YtgiphajcffambaaW.PrintWords.Kd.C k35 w A1 l1.length l1) (hc1 : l1.length ≤ c1) (h : impl_BackExchange.f a0 a1 a2 l1 = some (r1, r2)) :
    Calls Try.prog 14 #[.int .i64 a0, .int .i64 a1, .int .i64 a2, .slice A1 l1.length c1] w fun e w' => ∃ v0_ : Value, e = .returned (.tuple #[v0_, .bool r2]) ∧ Go.Proofs.YtgiphajcffambaaW.PrintWords.Kd.R k35 35 w' w.heap.size (fun _ => True) v0_ r1 ∧ Below w.heap.size w w' := by
  unfold impl_BackExchange.f at h
  obtain ⟨⟨b, q⟩, hb, h⟩ := Option.bind_eq_some_iff.mp h
  cases b with
  | false =>
    rw [if_neg (by simp)] at h
    cases h
    exact (impl_BackExchange.no_ a0 a1 a2 A1 c1 l1 q w hc1 hr1 hb).mono fun e w' h => ⟨_, h.1, Go.Proofs.YtgiphajcffambaaW.PrintWords.Kd.R_nil _ _ _ _ _, h.2⟩
  | true =>
    rw [if_pos rfl] at h
    cases h
    refine (impl_BackExchange.yes_ a0 a1 a2 A1 c1 l1 q w hc1 (exLen a0 a1 a2 l1 q hb) hr1 hb).mono fun e w' h => ?_
    obtain ⟨⟨v, hv, hk⟩, hw⟩ := h
    rw [bkTo_rev] at hk
    exact ⟨v, hv, hk, hw⟩


end Go.Proofs.Ytgiphajcffambaa.XB
