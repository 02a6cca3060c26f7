/- The Lean functions that the Go functions of this seat compute, each with the proof that the Go function computes it, for every input (laws: FnExactCountRings, FnExactCountBlockedRings). Conditions: none beyond those that each theorem names. Written by a program of this session over the kit's printer. -/
import Derived.Test.YtpelhinjoambfaaXC0
import Derived.Test.YtpelhinjoambfaaXC1
import Derived.Test.YtpelhinjoambfaaXC3
import Derived.Test.YtpelhinjoambfaaXC4
namespace Go.Proofs.Ytpelhinjoambfaa.XC
open Go.RowKit Go.Proofs.YtpelhinjoambfaaW.PrintWords Go.Proofs.YtpelhinjoambfaaW.PrintLast Go.Proofs.YtpelhinjoambfaaW.PrintMore
attribute [local go_sem] max2_int min2_int max_two min_two max_three min_three max_four min_four   -- for this text's walks alone
attribute [local go_sem] Lib.run_min_strs Go.Proofs.YtpelhinjoambfaaXW.run_min2_strs Go.Proofs.YtpelhinjoambfaaXW.run_int_string
set_option linter.unusedVariables false
set_option linter.unusedSimpArgs false

/-! ### impl_countRings: function 33 (given) -/
section
open Go Go.RowKit Go.Lib Go.Proofs.YtpelhinjoambfaaW.PrintWords Go.Proofs.YtpelhinjoambfaaW.PrintLast Go.Proofs.Ytpelhinjoambfaa.Ranks
-- uses impl_allLines.calls impl_leastRing.calls impl_areCounts.calls
/-- how many of some texts a condition holds for, if it is told for all -/
def cntO (c : ByteArray → Option Bool) (l : List ByteArray) : Option Nat := if l.all (fun s => (c s).isSome) = true then some (l.countP fun s => c s == some true) else none
theorem cntO_all {c : ByteArray → Option Bool} {l : List ByteArray} {n : Nat} (h : cntO c l = some n) : (∀ s ∈ l, ∃ b, c s = some b) ∧ n = l.countP fun s => c s == some true := by
  unfold cntO at h
  split at h
  · rename_i hh
    cases h
    exact ⟨fun s hs => Option.isSome_iff_exists.1 (List.all_eq_true.1 hh s hs), rfl⟩
  · cases h
/-- what lay below a mark stays, and what a walk over all lines leans on -/
structure Kc (m : Nat) (w w' : World) : Prop where
  sz : w.heap.size ≤ w'.heap.size
  bl : m ≤ w.heap.size → Below m w w'
  kt : KT w w'
theorem Kc.below {m : Nat} {w w' : World} (h : Below w.heap.size w w') : Kc m w w' := ⟨h.size, fun hm => h.mono hm, KT.below h⟩
theorem Kc.trans {m : Nat} {w w1 w2 : World} (h : Kc m w w1) (k : Kc m w1 w2) : Kc m w w2 := ⟨Nat.le_trans h.sz k.sz, fun hm => (h.bl hm).trans (k.bl (Nat.le_trans hm h.sz)), h.kt.trans k.kt⟩
theorem Kc.set {m cb : Nat} {w : World} {x : Value} (hm : m ≤ cb) (hb : w.heap[cb]? = some (.cells #[x] 3 (0, 0))) (j : Nat) (u : Value) : Kc m w (w.setCell ⟨cb, j, none⟩ u) :=
  ⟨by simp, fun _ => (Below.refl m w).setCell (p := ⟨cb, j, none⟩) hm u, ⟨by simp, fun k cells t hc ht => Below.heap_setCell w ⟨cb, j, none⟩ u k (fun e => by
    rw [e] at hc
    replace hc : w.heap[cb]? = some (.cells cells t (0, 0)) := hc
    rw [hb] at hc
    cases hc
    exact absurd ht (by decide))⟩⟩
/-- the count, in its box; another box stays -/
structure Cn (cb ob : Nat) (o : Obj) (c : ByteArray → Option Bool) (done : List ByteArray) (w : World) : Prop where
  n : w.heap[cb]? = some (.cells #[.int .i64 ((done.countP fun s => c s == some true : Nat) : Int)] 3 (0, 0))
  o : w.heap[ob]? = some o
  ne : ob ≠ cb
theorem Cn.below {cb ob : Nat} {o : Obj} {c : ByteArray → Option Bool} {done : List ByteArray} {w w' : World} (h : Cn cb ob o c done w) (hb : Below w.heap.size w w') : Cn cb ob o c done w' := ⟨(hb.block cb (Array.getElem?_eq_some_iff.1 h.n).1).trans h.n, (hb.block ob (Array.getElem?_eq_some_iff.1 h.o).1).trans h.o, h.ne⟩
theorem countP_yes {c : ByteArray → Option Bool} {done : List ByteArray} {s : ByteArray} (h : c s = some true) : (done ++ [s]).countP (fun s => c s == some true) = done.countP (fun s => c s == some true) + 1 := by
  rw [List.countP_append, List.countP_singleton, h]
  rfl
theorem countP_no {c : ByteArray → Option Bool} {done : List ByteArray} {s : ByteArray} (h : c s = some false) : (done ++ [s]).countP (fun s => c s == some true) = done.countP (fun s => c s == some true) := by
  rw [List.countP_append, List.countP_singleton, h]
  rfl
def condR (c : ByteArray → Option Bool) (s : ByteArray) : Option Bool := (impl_leastRing.f 2000 s).bind fun l => if l.toList == s.toList then c s else some false
set_option maxHeartbeats 4000000 in
set_option maxRecDepth 1000000 in
theorem cr1_walk (gf : FuncId) (he : Enters Try.prog gf) (c : ByteArray → Option Bool) (hc : ∀ (W : World) (s : ByteArray) (b : Bool), c s = some b → Calls Try.prog gf (#[.string s] ++ #[]) W fun e W' => e = .returned (.bool b) ∧ Below W.heap.size W W')
    (fb cb m : Nat) (hm : m ≤ cb) (done : List ByteArray) (s : ByteArray) (W : World) (hdl : done.length < 1000000) (hI : Cn cb fb (.cells #[.func (.func gf) #[] #[]] 46 (0, 0)) (condR c) done W) (hP : ∃ b, condR c s = some b) :
    Calls Try.prog 56 (#[.string s] ++ #[.pointer (some ⟨fb, 0, none⟩), .pointer (some ⟨cb, 0, none⟩)]) W fun e W' => e = .returned (.tuple #[]) ∧ Cn cb fb (.cells #[.func (.func gf) #[] #[]] 46 (0, 0)) (condR c) (done ++ [s]) W' ∧ Kc m W W' := by
  obtain ⟨b, hb⟩ := hP
  have hb' := hb
  unfold condR at hb'
  obtain ⟨l, hl, hb'⟩ := Option.bind_eq_some_iff.mp hb'
  have hcn : done.countP (fun s => condR c s == some true) < 1000000 := Nat.lt_of_le_of_lt List.countP_le_length hdl
  have eg : ∀ (args : Array Value) (w : World), (callFunc gf args).run Try.prog w = .ok (.enter gf args) w := he
  have HC := Aside0.mk hc
  clear hc
  cases hq : (l.toList == s.toList) with
  | false =>
    rw [hq, if_neg (by decide)] at hb'
    obtain rfl := Option.some.inj hb'
    have HI := Aside0.mk hI
    clear hb' hI
    go_enter Try.func56, Try.ntmps56
    go_wp2_with (first | (go_at_call 57; refine (impl_leastRing.calls 2000 s l _ hl).mono ?_; rintro e1 w1 ⟨rfl, hx⟩; have hy := hx))
    go_end0
    have h1 := HI.out.below hy
    exact ⟨rfl, ⟨by rw [countP_no hb]; exact h1.n, h1.o, h1.ne⟩, Kc.below hy⟩
  | true =>
    rw [hq, if_pos rfl] at hb'
    have HI := Aside0.mk hI
    clear hI
    cases b with
    | false =>
      go_enter Try.func56, Try.ntmps56
      go_wp2_with (first
        | (go_at_call 57; refine (impl_leastRing.calls 2000 s l _ hl).mono ?_; rintro e1 w1 ⟨rfl, hx⟩; have hy := hx; have h1 := HI.out.below hy; have hfc : w1.cell? ⟨fb, 0, none⟩ = some (.func (.func gf) #[] #[]) := (blk_cell h1.o 0).trans rfl)
        | (go_at_fn gf; refine (HC.out _ s false hb').mono ?_; rintro e2 w2 ⟨rfl, hz⟩; have hy2 := below_step hy hz; clear hfc))
      go_end0
      have h2 := HI.out.below hy2
      exact ⟨rfl, ⟨by rw [countP_no hb]; exact h2.n, h2.o, h2.ne⟩, Kc.below hy2⟩
    | true =>
      go_enter Try.func56, Try.ntmps56
      go_wp2_with (first
        | (go_at_call 57; refine (impl_leastRing.calls 2000 s l _ hl).mono ?_; rintro e1 w1 ⟨rfl, hx⟩; have hy := hx; have h1 := HI.out.below hy; have hfc : w1.cell? ⟨fb, 0, none⟩ = some (.func (.func gf) #[] #[]) := (blk_cell h1.o 0).trans rfl)
        | (go_at_fn gf; refine (HC.out _ s true hb').mono ?_; rintro e2 w2 ⟨rfl, hz⟩; have hy2 := below_step hy hz; have h2 := HI.out.below hy2; have hnc : w2.cell? ⟨cb, 0, none⟩ = some (.int .i64 ((done.countP fun s => condR c s == some true : Nat) : Int)) := (blk_cell h2.n 0).trans rfl; have hnf := blk_frozen h2.n 0; clear hfc))
      go_end0
      have ew : (((done.countP fun s => condR c s == some true : Nat) : Int) + 1) = ((((done ++ [s]).countP fun s => condR c s == some true : Nat)) : Int) := by rw [countP_yes hb]; rfl
      refine ⟨rfl, ⟨?_, (Below.heap_setCell w2 ⟨cb, 0, none⟩ _ fb h2.ne).trans h2.o, h2.ne⟩, (Kc.below hy2).trans (Kc.set hm h2.n 0 _)⟩
      rw [← ew]
      exact blk_put h2.n 0 _ rfl
set_option maxHeartbeats 4000000 in
set_option maxRecDepth 1000000 in
theorem impl_countRings.no1 (gf : FuncId) (a0 a1 a2 : Int) (w : World) (h : impl_areCounts.f a0 a1 a2 9 = some false) :
    Calls Try.prog 33 #[.int .i64 a0, .int .i64 a1, .int .i64 a2, .func (.func gf) #[] #[]] w fun e w' => e = .returned (.tuple #[.int .i64 0, .bool false]) ∧ Below w.heap.size w w' := by
  go_enter Try.func33, Try.ntmps33
  go_wp2_with (first
    | (go_at_call 27; refine (impl_areCounts.calls a0 a1 a2 9 false _ h).mono ?_; rintro e w1 ⟨rfl, m1, rfl⟩; have hb1 := pw_below_drewN (below_alloc (Below.refl w.heap.size w) (.cells #[.func (.func gf) #[] #[]] 46)) m1))
  go_ret2
  exact ⟨rfl, hb1⟩
set_option maxHeartbeats 4000000 in
set_option maxRecDepth 1000000 in
theorem impl_countRings.no2 (gf : FuncId) (t g f : Nat) (w : World) (h : impl_areCounts.f t g f 9 = some true) (hs : t + g + f < 3) :
    Calls Try.prog 33 #[.int .i64 (t : Int), .int .i64 (g : Int), .int .i64 (f : Int), .func (.func gf) #[] #[]] w fun e w' => e = .returned (.tuple #[.int .i64 0, .bool false]) ∧ Below w.heap.size w w' := by
  have hd : decide ((t : Int) + (g : Int) + (f : Int) < 3) = true := decide_eq_true (by omega)
  have hw1 : wrap64 ((t : Int) + (g : Int)) = (t : Int) + (g : Int) := by unfold wrap64; omega
  have hw2 : wrap64 ((t : Int) + (g : Int) + (f : Int)) = (t : Int) + (g : Int) + (f : Int) := by unfold wrap64; omega
  go_enter Try.func33, Try.ntmps33
  go_wp2_with (first
    | (go_at_call 27; refine (impl_areCounts.calls t g f 9 true _ h).mono ?_; clear h; rintro e w1 ⟨rfl, m1, rfl⟩; have hb1 := pw_below_drewN (below_alloc (Below.refl w.heap.size w) (.cells #[.func (.func gf) #[] #[]] 46)) m1))
  go_ret2
  exact ⟨rfl, hb1⟩
set_option maxHeartbeats 4000000 in
set_option maxRecDepth 1000000 in
theorem impl_countRings.walk (gf : FuncId) (he : Enters Try.prog gf) (c : ByteArray → Option Bool) (hc : ∀ (W : World) (s : ByteArray) (b : Bool), c s = some b → Calls Try.prog gf (#[.string s] ++ #[]) W fun e W' => e = .returned (.bool b) ∧ Below W.heap.size W W')
    (t g f n : Nat) (w : World) (h : impl_areCounts.f t g f 9 = some true) (hs : 3 ≤ t + g + f) (h12 : t + g + f ≤ 12) (hdl : (linesAt (t + g + f) t g f []).length ≤ 1000000) (hn : cntO (condR c) (linesAt (t + g + f) t g f []) = some n) :
    Calls Try.prog 33 #[.int .i64 (t : Int), .int .i64 (g : Int), .int .i64 (f : Int), .func (.func gf) #[] #[]] w fun e w' => e = .returned (.tuple #[.int .i64 (n : Int), .bool true]) ∧ Below w.heap.size w w' := by
  obtain ⟨hall, hnn⟩ := cntO_all hn
  have hd : decide ((t : Int) + (g : Int) + (f : Int) < 3) = false := decide_eq_false (by omega)
  have hw1 : wrap64 ((t : Int) + (g : Int)) = (t : Int) + (g : Int) := by unfold wrap64; omega
  have hw2 : wrap64 ((t : Int) + (g : Int) + (f : Int)) = (t : Int) + (g : Int) + (f : Int) := by unfold wrap64; omega
  have hmf : ∀ (fn : Fn) (first cap : Array Value) (w : World), (Instr.makeFunc fn first cap).run Try.prog w = .ok (.func fn first cap) w := fun _ _ _ _ => rfl
  have HA := Aside0.mk (fun (fb cb m : Nat) (hm : m ≤ cb) (W : World) (hI : Cn cb fb (.cells #[.func (.func gf) #[] #[]] 46 (0, 0)) (condR c) [] W) => impl_allLines.walk (ge := 56) (lb := #[.pointer (some ⟨fb, 0, none⟩), .pointer (some ⟨cb, 0, none⟩)]) (I := Cn cb fb (.cells #[.func (.func gf) #[] #[]] 46 (0, 0)) (condR c)) (Kp := Kc m) (P := fun s => ∃ b, condR c s = some b)
    ⟨enters_of Try.func56 (by kernel_rfl) rfl, fun _ _ _ hI hb => hI.below hb, fun _ _ hb => Kc.below hb, fun _ _ _ h1 h2 => h1.trans h2, fun _ _ hk => hk.kt, fun done s W hd hI hP => cr1_walk gf he c hc fb cb m hm done s W hd hI hP⟩ t g f [] W h12 (by simpa using hdl) hall hI)
  have HN := Lib.hid hnn
  clear hc hall hn hnn hdl
  go_enter Try.func33, Try.ntmps33
  go_wp2_with (first
    | (go_at_call 27; refine (impl_areCounts.calls t g f 9 true _ h).mono ?_; clear h; rintro e w1 ⟨rfl, m1, rfl⟩; have hb1 := pw_below_drewN (below_alloc (Below.refl w.heap.size w) (.cells #[.func (.func gf) #[] #[]] 46)) m1; have hf1 := blk_below (blk_new w (.cells #[.func (.func gf) #[] #[]] 46 (0, 0))) (pw_below_drewN (Below.refl (w.alloc (.cells #[.func (.func gf) #[] #[]] 46 (0, 0))).heap.size _) m1); have hz1 : ((w.alloc (.cells #[.func (.func gf) #[] #[]] 46)).drewN m1).heap.size = w.heap.size + 1 := (by simp); generalize (w.alloc (.cells #[.func (.func gf) #[] #[]] 46)).drewN m1 = w1 at *; have hcb : (w1.alloc (.cells #[.int .i64 0] 3)).heap[w.heap.size + 1]? = some (.cells #[.int .i64 0] 3 (0, 0)) := (by have := blk_new w1 (.cells #[.int .i64 0] 3 (0, 0)); rwa [hz1] at this); have hfb := blk_alloc hf1 (.cells #[.int .i64 0] 3 (0, 0)); have hb2 := below_step hb1 (below_alloc (Below.refl w1.heap.size w1) (.cells #[.int .i64 0] 3 (0, 0))))
    | (go_at_call 40; refine (HA.out w.heap.size (w.heap.size + 1) w.heap.size (Nat.le_succ _) _ ⟨hcb, hfb, Nat.ne_of_lt (Nat.lt_succ_self _)⟩).mono ?_; rintro e w2 ⟨rfl, hI2, hk2⟩; have hc2 : w2.cell? ⟨w.heap.size + 1, 0, none⟩ = some (.int .i64 (n : Int)) := (by rw [HN.out]; exact (blk_cell hI2.n 0).trans rfl)))
  go_ret2
  exact ⟨rfl, hb2.trans (hk2.bl hb2.size)⟩
end
def impl_countRings.f (a0 : Int) : Option (Int) := none
theorem impl_countRings.calls : True := trivial


/-! ### impl_CountRings: function 12 (given) -/
section
open Go Go.RowKit Go.Lib Go.Proofs.YtpelhinjoambfaaW.PrintWords Go.Proofs.YtpelhinjoambfaaW.PrintLast Go.Proofs.Ytpelhinjoambfaa.Ranks
-- uses impl_countRings.calls impl_areCounts.calls
def allC (_ : ByteArray) : Option Bool := some true
set_option maxHeartbeats 4000000 in
set_option maxRecDepth 1000000 in
theorem allC_call (W : World) (s : ByteArray) (b : Bool) (h : allC s = some b) : Calls Try.prog 34 (#[.string s] ++ #[]) W fun e W' => e = .returned (.bool b) ∧ Below W.heap.size W W' := by
  obtain rfl := Option.some.inj h
  have hB := Below.refl W.heap.size W
  go_enter Try.func34, Try.ntmps34
  go_wp2
  go_ret
  exact ⟨rfl, hB⟩
theorem allC_enters : Enters Try.prog 34 := enters_of Try.func34 (by kernel_rfl) rfl
set_option maxHeartbeats 4000000 in
set_option maxRecDepth 1000000 in
theorem impl_CountRings.any_ (a0 a1 a2 r1 : Int) (r2 : Bool) (w : World) (hC : Calls Try.prog 33 #[.int .i64 a0, .int .i64 a1, .int .i64 a2, .func (.func 34) #[] #[]] w fun e w' => e = .returned (.tuple #[.int .i64 r1, .bool r2]) ∧ Below w.heap.size w w') :
    Calls Try.prog 12 #[.int .i64 a0, .int .i64 a1, .int .i64 a2] w fun e w' => e = .returned (.tuple #[.int .i64 r1, .bool r2]) ∧ Below w.heap.size w w' := by
  have HC := Aside0.mk hC
  clear hC
  go_enter Try.func12, Try.ntmps12
  go_wp2_with (first
    | (go_at_call 33; refine HC.out.mono ?_; rintro e w1 ⟨rfl, hb1⟩))
  go_ret2
  exact ⟨rfl, hb1⟩
end
/-- how many rings are counted -/
def impl_CountRings.f (a0 a1 a2 : Int) : Option (Int × Bool) := (impl_areCounts.f a0 a1 a2 9).bind fun r => if r = true then (if 0 ≤ a0 ∧ 0 ≤ a1 ∧ 0 ≤ a2 ∧ a0 + a1 + a2 ≤ 12 then (if a0 + a1 + a2 < 3 then some (0, false) else if (linesAt (a0.toNat + a1.toNat + a2.toNat) a0.toNat a1.toNat a2.toNat []).length ≤ 1000000 then ((cntO (condR allC) (linesAt (a0.toNat + a1.toNat + a2.toNat) a0.toNat a1.toNat a2.toNat [])).bind fun n => some ((n : Int), true)) else none) else none) else some (0, false)
theorem impl_CountRings.calls (a0 a1 a2 r1 : Int) (r2 : Bool) (w : World) (h : impl_CountRings.f a0 a1 a2 = some (r1, r2)) :
    Calls Try.prog 12 #[.int .i64 a0, .int .i64 a1, .int .i64 a2] w fun e w' => e = .returned (.tuple #[.int .i64 r1, .bool r2]) ∧ Below w.heap.size w w' := by
  unfold impl_CountRings.f at h
  obtain ⟨r, hr, h⟩ := Option.bind_eq_some_iff.mp h
  cases r with
  | false =>
    rw [if_neg (by decide)] at h
    cases h
    exact impl_CountRings.any_ a0 a1 a2 _ _ w (impl_countRings.no1 34 a0 a1 a2 w hr)
  | true =>
    rw [if_pos rfl] at h
    split at h
    case isFalse => cases h
    rename_i hh
    obtain ⟨t, rfl⟩ : ∃ t : Nat, a0 = (t : Int) := ⟨a0.toNat, (Int.toNat_of_nonneg hh.1).symm⟩
    obtain ⟨g, rfl⟩ : ∃ g : Nat, a1 = (g : Int) := ⟨a1.toNat, (Int.toNat_of_nonneg hh.2.1).symm⟩
    obtain ⟨f, rfl⟩ : ∃ f : Nat, a2 = (f : Int) := ⟨a2.toNat, (Int.toNat_of_nonneg hh.2.2.1).symm⟩
    rw [Int.toNat_natCast, Int.toNat_natCast, Int.toNat_natCast] at h
    split at h
    · cases h
      exact impl_CountRings.any_ _ _ _ _ _ w (impl_countRings.no2 34 t g f w hr (by omega))
    · split at h
      case isFalse => cases h
      rename_i h3 hl
      obtain ⟨n, hn, h⟩ := Option.bind_eq_some_iff.mp h
      cases h
      exact impl_CountRings.any_ _ _ _ _ _ w (impl_countRings.walk 34 allC_enters allC allC_call t g f n w hr (by omega) (by omega) hl hn)


/-! ### laws_FnExactCountRings: function 4 -/
def laws_FnExactCountRings.f (k : Nat) (a0 : Int) (a1 : Int) (a2 : Int) : Option (Bool) := (spec_CountRings.f k a0 a1 a2).bind fun bt144 => ((impl_CountRings.f a0 a1 a2).bind fun bt146 => (if bt146.1 = bt144.1 then (if (bt146.2 != bt144.2) = true then (some false) else (some true)) else (some false)))
theorem laws_FnExactCountRings.mono : ∀ a0 a1 a2 k, LeO (laws_FnExactCountRings.f k a0 a1 a2) (laws_FnExactCountRings.f (k + 1) a0 a1 a2) := by
  intro a0 a1 a2 k
  unfold laws_FnExactCountRings.f
  repeat' first
      | (with_reducible exact spec_CountRings.mono _ _ _ _)
      | (with_reducible exact LeO.refl _)
      | (with_reducible exact LeO.none _)
      | (with_reducible refine LeO.ite ?_ ?_)
      | (with_reducible refine LeO.bind ?_ (fun _ => ?_))
      | exact spec_CountRings.mono _ _ _ _
      | exact LeO.none _
      | refine LeO.ite ?_ ?_
      | refine LeO.bind ?_ (fun _ => ?_)
set_option maxHeartbeats 8000000 in
set_option maxRecDepth 100000 in
theorem laws_FnExactCountRings.calls (k : Nat) (a0 : Int) (a1 : Int) (a2 : Int) (r : Bool) (w : World) (h : laws_FnExactCountRings.f k a0 a1 a2 = some r) :
    Calls Try.prog 4 #[.int .i64 a0, .int .i64 a1, .int .i64 a2] w fun e w' => e = .returned (.bool r) ∧ Below w.heap.size w w' := by
  have HB := Aside0.mk (Below.refl w.heap.size w)
  have H : ((spec_CountRings.f k a0 a1 a2).bind fun bt144 => ((impl_CountRings.f a0 a1 a2).bind fun bt146 => (if bt146.1 = bt144.1 then (if (bt146.2 != bt144.2) = true then (some false) else (some true)) else (some false)))) = some r := h
  clear h
  replace H := Option.bind_eq_some_iff.mp H
  obtain ⟨⟨t144, t145⟩, A40, H⟩ := H
  replace H : ((impl_CountRings.f a0 a1 a2).bind fun bt146 => (if bt146.1 = t144 then (if (bt146.2 != t145) = true then (some false) else (some true)) else (some false))) = some r := H
  have A4 := Aside0.mk A40
  clear A40
  replace H := Option.bind_eq_some_iff.mp H
  obtain ⟨⟨t146, t147⟩, A50, H⟩ := H
  replace H : (if t146 = t144 then (if (t147 != t145) = true then (some false) else (some true)) else (some false)) = some r := H
  have A5 := Aside0.mk A50
  clear A50
  by_cases c6 : t146 = t144
  · rw [if_pos c6] at H
    have c6b0 : (t146 == t144) = true := beq_iff_eq.mpr c6
    have c6b1 : (t146 != t144) = false := bne_eq_false_iff_eq.mpr c6
    clear c6
    by_cases c7 : (t147 != t145) = true
    · rw [if_pos c7] at H
      have c7b0 : (t147 != t145) = true := c7
      (try (have c7b1 : decide (t147 = t145) = false := by simpa using c7))
      (try (have c7b2 : (t147 == t145) = false := by simpa using c7))
      (try (have c7b3 : ¬ (t147 = t145) := by simpa using c7))
      clear c7
      obtain rfl := Option.some.inj H
      go_enter Try.func4, Try.ntmps4
      go_wp2_with (first | ((with_reducible refine gate_callee (f := 11) rfl ?_); refine goesL_ (some 15) rfl rfl Try.func11 (by kernel_rfl) rfl #[.int .i64 a0, .int .i64 a1, .int .i64 a2] rfl (by (try simp only [List.map_toArray, List.map_cons, List.map_nil]); first | done | rfl | (simp only [List.length_drop, List.length_take]; rfl)) ?_; (with_reducible refine (spec_CountRings.calls k a0 a1 a2 t144 t145 _ A4.out).mono ?_); rintro e w8 ⟨rfl, hb⟩; refine ⟨_, rfl, ?_⟩; have n0_ := Aside0.mk (below_step (by repeat (first | (with_reducible first | exact HB.out | apply below_alloc | apply pw_below_drewN | apply below_drew1) | exact HB.out)) hb); clear HB; have HB := n0_; clear n0_; (try clear hb); (try clear hb2); (try clear hk); (try clear hi)) | ((with_reducible refine gate_callee (f := 12) rfl ?_); refine goesL_ (some 22) rfl rfl Try.func12 (by kernel_rfl) rfl #[.int .i64 a0, .int .i64 a1, .int .i64 a2] rfl (by (try simp only [List.map_toArray, List.map_cons, List.map_nil]); first | done | rfl | (simp only [List.length_drop, List.length_take]; rfl)) ?_; (with_reducible refine (impl_CountRings.calls a0 a1 a2 t146 t147 _ A5.out).mono ?_); rintro e w9 ⟨rfl, hb⟩; refine ⟨_, rfl, ?_⟩; have n0_ := Aside0.mk (below_step (by repeat (first | (with_reducible first | exact HB.out | apply below_alloc | apply pw_below_drewN | apply below_drew1) | exact HB.out)) hb); clear HB; have HB := n0_; clear n0_; (try clear hb); (try clear hb2); (try clear hk); (try clear hi)))
      go_ret
      exact ⟨by first | rfl | (simp [errW_none, errW_some] <;> rfl) | (simp [*, errW_none, errW_some] <;> rfl), by repeat (first | (with_reducible first | exact HB.out | apply below_alloc | apply pw_below_drewN | apply below_drew1) | exact HB.out)⟩
    · rw [if_neg c7] at H
      have c7b0 : (t147 != t145) = false := by simpa using c7
      (try (have c7b1 : decide (t147 = t145) = true := by simpa using c7))
      (try (have c7b2 : (t147 == t145) = true := by simpa using c7))
      clear c7
      obtain rfl := Option.some.inj H
      go_enter Try.func4, Try.ntmps4
      go_wp2_with (first | ((with_reducible refine gate_callee (f := 11) rfl ?_); refine goesL_ (some 15) rfl rfl Try.func11 (by kernel_rfl) rfl #[.int .i64 a0, .int .i64 a1, .int .i64 a2] rfl (by (try simp only [List.map_toArray, List.map_cons, List.map_nil]); first | done | rfl | (simp only [List.length_drop, List.length_take]; rfl)) ?_; (with_reducible refine (spec_CountRings.calls k a0 a1 a2 t144 t145 _ A4.out).mono ?_); rintro e w10 ⟨rfl, hb⟩; refine ⟨_, rfl, ?_⟩; have n0_ := Aside0.mk (below_step (by repeat (first | (with_reducible first | exact HB.out | apply below_alloc | apply pw_below_drewN | apply below_drew1) | exact HB.out)) hb); clear HB; have HB := n0_; clear n0_; (try clear hb); (try clear hb2); (try clear hk); (try clear hi)) | ((with_reducible refine gate_callee (f := 12) rfl ?_); refine goesL_ (some 22) rfl rfl Try.func12 (by kernel_rfl) rfl #[.int .i64 a0, .int .i64 a1, .int .i64 a2] rfl (by (try simp only [List.map_toArray, List.map_cons, List.map_nil]); first | done | rfl | (simp only [List.length_drop, List.length_take]; rfl)) ?_; (with_reducible refine (impl_CountRings.calls a0 a1 a2 t146 t147 _ A5.out).mono ?_); rintro e w11 ⟨rfl, hb⟩; refine ⟨_, rfl, ?_⟩; have n0_ := Aside0.mk (below_step (by repeat (first | (with_reducible first | exact HB.out | apply below_alloc | apply pw_below_drewN | apply below_drew1) | exact HB.out)) hb); clear HB; have HB := n0_; clear n0_; (try clear hb); (try clear hb2); (try clear hk); (try clear hi)))
      go_ret
      exact ⟨by first | rfl | (simp [errW_none, errW_some] <;> rfl) | (simp [*, errW_none, errW_some] <;> rfl), by repeat (first | (with_reducible first | exact HB.out | apply below_alloc | apply pw_below_drewN | apply below_drew1) | exact HB.out)⟩
  · rw [if_neg c6] at H
    have c6b0 : (t146 == t144) = false := beq_eq_false_iff_ne.mpr c6
    have c6b1 : (t146 != t144) = true := bne_iff_ne.mpr c6
    obtain rfl := Option.some.inj H
    go_enter Try.func4, Try.ntmps4
    go_wp2_with (first | ((with_reducible refine gate_callee (f := 11) rfl ?_); refine goesL_ (some 15) rfl rfl Try.func11 (by kernel_rfl) rfl #[.int .i64 a0, .int .i64 a1, .int .i64 a2] rfl (by (try simp only [List.map_toArray, List.map_cons, List.map_nil]); first | done | rfl | (simp only [List.length_drop, List.length_take]; rfl)) ?_; (with_reducible refine (spec_CountRings.calls k a0 a1 a2 t144 t145 _ A4.out).mono ?_); rintro e w12 ⟨rfl, hb⟩; refine ⟨_, rfl, ?_⟩; have n0_ := Aside0.mk (below_step (by repeat (first | (with_reducible first | exact HB.out | apply below_alloc | apply pw_below_drewN | apply below_drew1) | exact HB.out)) hb); clear HB; have HB := n0_; clear n0_; (try clear hb); (try clear hb2); (try clear hk); (try clear hi)) | ((with_reducible refine gate_callee (f := 12) rfl ?_); refine goesL_ (some 22) rfl rfl Try.func12 (by kernel_rfl) rfl #[.int .i64 a0, .int .i64 a1, .int .i64 a2] rfl (by (try simp only [List.map_toArray, List.map_cons, List.map_nil]); first | done | rfl | (simp only [List.length_drop, List.length_take]; rfl)) ?_; (with_reducible refine (impl_CountRings.calls a0 a1 a2 t146 t147 _ A5.out).mono ?_); rintro e w13 ⟨rfl, hb⟩; refine ⟨_, rfl, ?_⟩; have n0_ := Aside0.mk (below_step (by repeat (first | (with_reducible first | exact HB.out | apply below_alloc | apply pw_below_drewN | apply below_drew1) | exact HB.out)) hb); clear HB; have HB := n0_; clear n0_; (try clear hb); (try clear hb2); (try clear hk); (try clear hi)))
    go_ret
    exact ⟨by first | rfl | (simp [errW_none, errW_some] <;> rfl) | (simp [*, errW_none, errW_some] <;> rfl), by repeat (first | (with_reducible first | exact HB.out | apply below_alloc | apply pw_below_drewN | apply below_drew1) | exact HB.out)⟩

/-- THE ONE PURE STATEMENT of laws_FnExactCountRings: yours. -/
def laws_FnExactCountRings.Pure : Prop := ∀ (a0 : Int) (a1 : Int) (a2 : Int), (Lit.int .i64 a0).wf = true → (Lit.int .i64 a1).wf = true → (Lit.int .i64 a2).wf = true → ∃ k, laws_FnExactCountRings.f k a0 a1 a2 = some true
theorem laws_FnExactCountRings.walk (P : laws_FnExactCountRings.Pure) (a0 : Int) (a1 : Int) (a2 : Int) (w : World) (w0 : (Lit.int .i64 a0).wf = true) (w1 : (Lit.int .i64 a1).wf = true) (w2 : (Lit.int .i64 a2).wf = true) :
    Calls Try.prog 4 #[.int .i64 a0, .int .i64 a1, .int .i64 a2] w fun e w' => e = .returned (.bool true) ∧ Below w.heap.size w w' := by
  obtain ⟨k, h⟩ := P a0 a1 a2 w0 w1 w2
  refine (laws_FnExactCountRings.calls k a0 a1 a2 true w h).mono ?_
  rintro e w' ⟨rfl, hd⟩
  exact ⟨rfl, hd⟩

/-! ### spec_CountBlockedRings: function 13 -/
def spec_CountBlockedRings.f (k : Nat) (a0 : Int) (a1 : Int) (a2 : Int) : Option (Int × Bool) := (spec_ciNumbers.f k a0 a1 a2).bind fun t148 => (if t148 = true then ((spec_ciCount.f k (⟨#[]⟩ : ByteArray) a0 a1 a2).bind fun bt149 => (some (bt149.2, true))) else (some (0, false)))
theorem spec_CountBlockedRings.mono : ∀ a0 a1 a2 k, LeO (spec_CountBlockedRings.f k a0 a1 a2) (spec_CountBlockedRings.f (k + 1) a0 a1 a2) := by
  intro a0 a1 a2 k
  unfold spec_CountBlockedRings.f
  repeat' first
      | (with_reducible exact spec_ciCount.mono _ _ _ _ _)
      | (with_reducible exact spec_ciNumbers.mono _ _ _ _)
      | (with_reducible exact LeO.refl _)
      | (with_reducible exact LeO.none _)
      | (with_reducible refine LeO.ite ?_ ?_)
      | (with_reducible refine LeO.bind ?_ (fun _ => ?_))
      | exact spec_ciCount.mono _ _ _ _ _
      | exact spec_ciNumbers.mono _ _ _ _
      | exact LeO.none _
      | refine LeO.ite ?_ ?_
      | refine LeO.bind ?_ (fun _ => ?_)
set_option maxHeartbeats 8000000 in
set_option maxRecDepth 100000 in
theorem spec_CountBlockedRings.calls (k : Nat) (a0 : Int) (a1 : Int) (a2 : Int) (r1 : Int) (r2 : Bool) (w : World) (h : spec_CountBlockedRings.f k a0 a1 a2 = some (r1, r2)) :
    Calls Try.prog 13 #[.int .i64 a0, .int .i64 a1, .int .i64 a2] w fun e w' => e = .returned (.tuple #[.int .i64 r1, .bool r2]) ∧ Below w.heap.size w w' := by
  have HB := Aside0.mk (Below.refl w.heap.size w)
  have H : ((spec_ciNumbers.f k a0 a1 a2).bind fun t148 => (if t148 = true then ((spec_ciCount.f k (⟨#[]⟩ : ByteArray) a0 a1 a2).bind fun bt149 => (some (bt149.2, true))) else (some (0, false)))) = some (r1, r2) := h
  clear h
  replace H := Option.bind_eq_some_iff.mp H
  obtain ⟨t148, A40, H⟩ := H
  replace H : (if t148 = true then ((spec_ciCount.f k (⟨#[]⟩ : ByteArray) a0 a1 a2).bind fun bt149 => (some (bt149.2, true))) else (some (0, false))) = some (r1, r2) := H
  have A4 := Aside0.mk A40
  clear A40
  by_cases c5 : t148 = true
  · subst c5
    have H1 : ((spec_ciCount.f k (⟨#[]⟩ : ByteArray) a0 a1 a2).bind fun bt149 => (some (bt149.2, true))) = some (r1, r2) := by rw [if_pos rfl] at H; exact H
    clear H
    have H := H1
    clear H1
    replace H := Option.bind_eq_some_iff.mp H
    obtain ⟨⟨t149, t150⟩, A60, H⟩ := H
    replace H : (some (t150, true)) = some (r1, r2) := H
    have A6 := Aside0.mk A60
    clear A60
    simp only [Option.some.injEq, Prod.mk.injEq] at H
    obtain ⟨rfl, rfl⟩ := H
    go_enter Try.func13, Try.ntmps13
    go_wp2_with (first | ((with_reducible refine gate_callee (f := 31) rfl ?_); refine goesL_ (some 13) rfl rfl Try.func31 (by kernel_rfl) rfl #[.int .i64 a0, .int .i64 a1, .int .i64 a2] rfl (by (try simp only [List.map_toArray, List.map_cons, List.map_nil]); first | done | rfl | (simp only [List.length_drop, List.length_take]; rfl)) ?_; (with_reducible refine (spec_ciNumbers.calls k a0 a1 a2 true _ A4.out).mono ?_); rintro e w7 ⟨rfl, hb⟩; refine ⟨_, rfl, ?_⟩; have n0_ := Aside0.mk (below_step (by repeat (first | (with_reducible first | exact HB.out | apply below_alloc | apply pw_below_drewN | apply below_drew1) | exact HB.out)) hb); clear HB; have HB := n0_; clear n0_; (try clear hb); (try clear hb2); (try clear hk); (try clear hi)) | ((with_reducible refine gate_callee (f := 32) rfl ?_); refine goesL_ (some 19) rfl rfl Try.func32 (by kernel_rfl) rfl #[.string (⟨#[]⟩ : ByteArray), .int .i64 a0, .int .i64 a1, .int .i64 a2] rfl (by (try simp only [List.map_toArray, List.map_cons, List.map_nil]); first | done | rfl | (simp only [List.length_drop, List.length_take]; rfl)) ?_; (with_reducible refine (spec_ciCount.calls k (⟨#[]⟩ : ByteArray) a0 a1 a2 t149 t150 _ A6.out).mono ?_); rintro e w8 ⟨rfl, hb⟩; refine ⟨_, rfl, ?_⟩; have n0_ := Aside0.mk (below_step (by repeat (first | (with_reducible first | exact HB.out | apply below_alloc | apply pw_below_drewN | apply below_drew1) | exact HB.out)) hb); clear HB; have HB := n0_; clear n0_; (try clear hb); (try clear hb2); (try clear hk); (try clear hi)))
    go_ret2
    exact ⟨by first | rfl | (simp [errW_none, errW_some] <;> rfl) | (simp [*, errW_none, errW_some] <;> rfl), by repeat (first | (with_reducible first | exact HB.out | apply below_alloc | apply pw_below_drewN | apply below_drew1) | exact HB.out)⟩
  · replace c5 := Bool.eq_false_iff.mpr c5
    subst c5
    have H1 : (some (0, false)) = some (r1, r2) := by rw [if_neg (show ¬ (false = true) by decide)] at H; exact H
    clear H
    have H := H1
    clear H1
    simp only [Option.some.injEq, Prod.mk.injEq] at H
    obtain ⟨rfl, rfl⟩ := H
    go_enter Try.func13, Try.ntmps13
    go_wp2_with (first | ((with_reducible refine gate_callee (f := 31) rfl ?_); refine goesL_ (some 13) rfl rfl Try.func31 (by kernel_rfl) rfl #[.int .i64 a0, .int .i64 a1, .int .i64 a2] rfl (by (try simp only [List.map_toArray, List.map_cons, List.map_nil]); first | done | rfl | (simp only [List.length_drop, List.length_take]; rfl)) ?_; (with_reducible refine (spec_ciNumbers.calls k a0 a1 a2 false _ A4.out).mono ?_); rintro e w9 ⟨rfl, hb⟩; refine ⟨_, rfl, ?_⟩; have n0_ := Aside0.mk (below_step (by repeat (first | (with_reducible first | exact HB.out | apply below_alloc | apply pw_below_drewN | apply below_drew1) | exact HB.out)) hb); clear HB; have HB := n0_; clear n0_; (try clear hb); (try clear hb2); (try clear hk); (try clear hi)))
    go_ret2
    exact ⟨by first | rfl | (simp [errW_none, errW_some] <;> rfl) | (simp [*, errW_none, errW_some] <;> rfl), by repeat (first | (with_reducible first | exact HB.out | apply below_alloc | apply pw_below_drewN | apply below_drew1) | exact HB.out)⟩

/-! ### impl_ringMoves: function 36 -/
def impl_ringMoves.l0 : Nat → ByteArray → List (S58) → Int → Int → Int → Option ((List (S58)))
  | 0, _, _, _, _, _ => none
  | k + 1, x0, x3, x4, x12, x13 => if x13 < x12 then (if 0 ≤ x13 then (if x13 < (x0.size : Int) then ((impl_stepOf.f (bt x0 x13)).bind fun t154 => (if x4 = 0 then (none) else (if t154 = 0 then (impl_ringMoves.l0 k x0 x3 x4 x12 (wrap64 (x13 + 1))) else (if 0 ≤ (Int.tmod (wrap64 ((wrap64 (x13 + t154)) + x4)) x4) then (if (Int.tmod (wrap64 ((wrap64 (x13 + t154)) + x4)) x4) < (x0.size : Int) then (if (bt x0 (Int.tmod (wrap64 ((wrap64 (x13 + t154)) + x4)) x4)) = 46 then (if x3.length < 8796093022208 then (impl_ringMoves.l0 k x0 (x3 ++ [(⟨x13, Int.tmod (wrap64 ((wrap64 (x13 + t154)) + x4)) x4⟩ : S58)]) x4 x12 (wrap64 (x13 + 1))) else (none)) else ((impl_other.f (bt x0 x13)).bind fun t158 => (if (bt x0 (Int.tmod (wrap64 ((wrap64 (x13 + t154)) + x4)) x4)) = t158 then (if 0 ≤ (Int.tmod (wrap64 ((wrap64 (x13 + (wrap64 (2 * t154)))) + (wrap64 (2 * x4)))) x4) then (if (Int.tmod (wrap64 ((wrap64 (x13 + (wrap64 (2 * t154)))) + (wrap64 (2 * x4)))) x4) < (x0.size : Int) then (if (bt x0 (Int.tmod (wrap64 ((wrap64 (x13 + (wrap64 (2 * t154)))) + (wrap64 (2 * x4)))) x4)) = 46 then (if x3.length < 8796093022208 then (impl_ringMoves.l0 k x0 (x3 ++ [(⟨x13, Int.tmod (wrap64 ((wrap64 (x13 + (wrap64 (2 * t154)))) + (wrap64 (2 * x4)))) x4⟩ : S58)]) x4 x12 (wrap64 (x13 + 1))) else (none)) else (impl_ringMoves.l0 k x0 x3 x4 x12 (wrap64 (x13 + 1)))) else (none)) else (none)) else (impl_ringMoves.l0 k x0 x3 x4 x12 (wrap64 (x13 + 1)))))) else (none)) else (none))))) else (none)) else (none)) else (some x3)
def impl_ringMoves.f (k : Nat) (a0 : ByteArray) : Option ((List (S58))) := impl_ringMoves.l0 k a0 (([] : List (S58))) (a0.size : Int) (a0.size : Int) 0
theorem impl_ringMoves.mono_l : ∀ k, (∀ y0 y1 y2 y3 y4, LeO (impl_ringMoves.l0 k y0 y1 y2 y3 y4) (impl_ringMoves.l0 (k + 1) y0 y1 y2 y3 y4))
  | 0 => fun _ _ _ _ _ r h => by simp [impl_ringMoves.l0] at h
  | k + 1 => by
    have ih0 := impl_ringMoves.mono_l k
    · intro y0 y1 y2 y3 y4
      unfold impl_ringMoves.l0
      repeat' first
      | (with_reducible exact ih0 _ _ _ _ _)
      | (with_reducible exact LeO.refl _)
      | (with_reducible exact LeO.none _)
      | (with_reducible refine LeO.ite ?_ ?_)
      | (with_reducible refine LeO.bind ?_ (fun _ => ?_))
      | exact ih0 _ _ _ _ _
      | exact LeO.none _
      | refine LeO.ite ?_ ?_
      | refine LeO.bind ?_ (fun _ => ?_)
theorem impl_ringMoves.mono : ∀ a0 k, LeO (impl_ringMoves.f k a0) (impl_ringMoves.f (k + 1) a0) := by
  intro a0 k
  have ih0 := impl_ringMoves.mono_l k
  unfold impl_ringMoves.f
  repeat' first
      | (with_reducible exact ih0 _ _ _ _ _)
      | (with_reducible exact LeO.refl _)
      | (with_reducible exact LeO.none _)
      | (with_reducible refine LeO.ite ?_ ?_)
      | (with_reducible refine LeO.bind ?_ (fun _ => ?_))
      | exact ih0 _ _ _ _ _
      | exact LeO.none _
      | refine LeO.ite ?_ ?_
      | refine LeO.bind ?_ (fun _ => ?_)
set_option maxHeartbeats 8000000 in
set_option maxRecDepth 100000 in
theorem impl_ringMoves.calls (k : Nat) (a0 : ByteArray) (r : List (S58)) (w : World) (h : impl_ringMoves.f k a0 = some r) :
    Calls Try.prog 36 #[.string a0] w fun e w' => ∃ v0_ : Value, e = .returned (v0_) ∧ Kd.R k58 58 w' w.heap.size (fun _ => True) v0_ r ∧ Below w.heap.size w w' := by
  have hu58 := Try.underlying58
  have HB := Aside0.mk (Below.refl w.heap.size w)
  have H : (impl_ringMoves.l0 k a0 (([] : List (S58))) (a0.size : Int) (a0.size : Int) 0) = some r := h
  clear h
  obtain ⟨y151, hy151⟩ : ∃ y_ : List (S58), y_ = (([] : List (S58))) := ⟨_, rfl⟩
  replace H : (impl_ringMoves.l0 k a0 y151 (a0.size : Int) (a0.size : Int) 0) = some r := by first | (rw [hy151]; with_reducible exact H) | (have H2_ := (Option.bind_some _ _).symm.trans H; rw [hy151]; with_reducible exact H2_) | (have H2_ := (Option.bind_some _ _).symm.trans H; with_reducible exact H2_) | with_reducible exact H | (rw [hy151]; exact H) | exact H
  have Ny151 := Aside0.mk hy151
  clear hy151
  have H' := Aside0.mk H
  clear H
  go_enter Try.func36, Try.ntmps36
  go_wp2_with (first | ((with_reducible refine gate_dst (N := 9) rfl ?_); refine Kd.R_lit k58 _ 58 ?hg (N := 9) ?hd (xs := ([] : List (S58))) (inner := []) (ok := fun _ => True) (okp := fun _ => True) ?hr ?hp (fun _ hk => hk) trivial (Below.refl _ _) (Nat.le_refl _) (by simp) ?_; (case hd => rfl); (case hg => rfl); (case hr => first | (go_simp; done) | (go_simp; rfl)); (case hp => exact (Reps.none _ _)); intro v152 w2 ho3 hb hg_ hnew_; clear hg_ hnew_; (first | rw [← Ny151.out] at ho3 | (simp only [Int.reduceToNat] at ho3; rw [← Ny151.out] at ho3)); have n0_ := Aside0.mk (Kd.R_lower ho3 (below_size (by repeat (first | (with_reducible first | exact HB.out | apply below_alloc | apply pw_below_drewN | apply below_drew1) | exact HB.out)))); have n1_ := Aside0.mk (below_step (by repeat (first | (with_reducible first | exact HB.out | apply below_alloc | apply pw_below_drewN | apply below_drew1) | exact HB.out)) hb); clear HB; have HO153 := n0_; have HB := n1_; clear n0_ n1_; clear hb ho3))
  repeat (go_quiet (first | ((with_reducible refine gate_dst (N := 9) rfl ?_); refine Kd.R_lit k58 _ 58 ?hg (N := 9) ?hd (xs := ([] : List (S58))) (inner := []) (ok := fun _ => True) (okp := fun _ => True) ?hr ?hp (fun _ hk => hk) trivial (Below.refl _ _) (Nat.le_refl _) (by simp) ?_; (case hd => rfl); (case hg => rfl); (case hr => first | (go_simp; done) | (go_simp; rfl)); (case hp => exact (Reps.none _ _)); intro v152 w2 ho3 hb hg_ hnew_; clear hg_ hnew_; (first | rw [← Ny151.out] at ho3 | (simp only [Int.reduceToNat] at ho3; rw [← Ny151.out] at ho3)); have n0_ := Aside0.mk (Kd.R_lower ho3 (below_size (by repeat (first | (with_reducible first | exact HB.out | apply below_alloc | apply pw_below_drewN | apply below_drew1) | exact HB.out)))); have n1_ := Aside0.mk (below_step (by repeat (first | (with_reducible first | exact HB.out | apply below_alloc | apply pw_below_drewN | apply below_drew1) | exact HB.out)) hb); clear HB; have HO153 := n0_; have HB := n1_; clear n0_ n1_; clear hb ho3)); try go_wp2_with (first | ((with_reducible refine gate_dst (N := 9) rfl ?_); refine Kd.R_lit k58 _ 58 ?hg (N := 9) ?hd (xs := ([] : List (S58))) (inner := []) (ok := fun _ => True) (okp := fun _ => True) ?hr ?hp (fun _ hk => hk) trivial (Below.refl _ _) (Nat.le_refl _) (by simp) ?_; (case hd => rfl); (case hg => rfl); (case hr => first | (go_simp; done) | (go_simp; rfl)); (case hp => exact (Reps.none _ _)); intro v152 w2 ho3 hb hg_ hnew_; clear hg_ hnew_; (first | rw [← Ny151.out] at ho3 | (simp only [Int.reduceToNat] at ho3; rw [← Ny151.out] at ho3)); have n0_ := Aside0.mk (Kd.R_lower ho3 (below_size (by repeat (first | (with_reducible first | exact HB.out | apply below_alloc | apply pw_below_drewN | apply below_drew1) | exact HB.out)))); have n1_ := Aside0.mk (below_step (by repeat (first | (with_reducible first | exact HB.out | apply below_alloc | apply pw_below_drewN | apply below_drew1) | exact HB.out)) hb); clear HB; have HO153 := n0_; have HB := n1_; clear n0_ n1_; clear hb ho3)))
  go_loopg [3, 13] k (fun kq v3 v13 w' => ∃ (x3_1 : List (S58)) (x13_1 : Int), v13 = .int .i64 x13_1 ∧ Aside0 (impl_ringMoves.l0 kq a0 x3_1 (a0.size : Int) (a0.size : Int) x13_1 = some r) ∧ Aside0 (kq ≤ k) ∧ Aside0 (Kd.R k58 58 w' w.heap.size (fun _ => True) v3 x3_1) ∧ Aside0 (Below w.heap.size w w'))
  case atStart => exact ⟨(y151), (0), (by first | rfl | (simp; done) | (simp [*]; done)), H', ⟨Nat.le_refl _⟩, ⟨by (with_reducible repeat (first | apply Kd.R_alloc | apply Kd.R_drewN | apply Kd.R_drew)); exact HO153.out⟩, ⟨by repeat (first | (with_reducible first | exact HB.out | apply below_alloc | apply pw_below_drewN | apply below_drew1) | exact HB.out)⟩⟩
  case round =>
    clear H'
    try clear p2
    try clear c3
    obtain ⟨x3_1, x13_1, rfl, HA, HK1, HO_3, HB⟩ := hrel
    cases gk with
    | zero => exact absurd HA.out (by simp [impl_ringMoves.l0])
    | succ k1 =>
      have H := HA.out
      clear HA
      simp only [impl_ringMoves.l0] at H
      by_cases c4 : x13_1 < (a0.size : Int)
      · rw [if_pos c4] at H
        have c4b0 : decide (x13_1 < (a0.size : Int)) = true := decide_eq_true c4
        clear c4
        by_cases c5 : 0 ≤ x13_1
        · rw [if_pos c5] at H
          have c5b0 : decide (0 ≤ x13_1) = true := decide_eq_true c5
          clear c5
          by_cases c6 : x13_1 < (a0.size : Int)
          · rw [if_pos c6] at H
            have c6b0 : decide (x13_1 < (a0.size : Int)) = true := decide_eq_true c6
            clear c6
            replace H := Option.bind_eq_some_iff.mp H
            obtain ⟨t154, A80, H⟩ := H
            replace H : (if (a0.size : Int) = 0 then (none) else (if t154 = 0 then (impl_ringMoves.l0 k1 a0 x3_1 (a0.size : Int) (a0.size : Int) (wrap64 (x13_1 + 1))) else (if 0 ≤ (Int.tmod (wrap64 ((wrap64 (x13_1 + t154)) + (a0.size : Int))) (a0.size : Int)) then (if (Int.tmod (wrap64 ((wrap64 (x13_1 + t154)) + (a0.size : Int))) (a0.size : Int)) < (a0.size : Int) then (if (bt a0 (Int.tmod (wrap64 ((wrap64 (x13_1 + t154)) + (a0.size : Int))) (a0.size : Int))) = 46 then (if x3_1.length < 8796093022208 then (impl_ringMoves.l0 k1 a0 (x3_1 ++ [(⟨x13_1, Int.tmod (wrap64 ((wrap64 (x13_1 + t154)) + (a0.size : Int))) (a0.size : Int)⟩ : S58)]) (a0.size : Int) (a0.size : Int) (wrap64 (x13_1 + 1))) else (none)) else ((impl_other.f (bt a0 x13_1)).bind fun t158 => (if (bt a0 (Int.tmod (wrap64 ((wrap64 (x13_1 + t154)) + (a0.size : Int))) (a0.size : Int))) = t158 then (if 0 ≤ (Int.tmod (wrap64 ((wrap64 (x13_1 + (wrap64 (2 * t154)))) + (wrap64 (2 * (a0.size : Int))))) (a0.size : Int)) then (if (Int.tmod (wrap64 ((wrap64 (x13_1 + (wrap64 (2 * t154)))) + (wrap64 (2 * (a0.size : Int))))) (a0.size : Int)) < (a0.size : Int) then (if (bt a0 (Int.tmod (wrap64 ((wrap64 (x13_1 + (wrap64 (2 * t154)))) + (wrap64 (2 * (a0.size : Int))))) (a0.size : Int))) = 46 then (if x3_1.length < 8796093022208 then (impl_ringMoves.l0 k1 a0 (x3_1 ++ [(⟨x13_1, Int.tmod (wrap64 ((wrap64 (x13_1 + (wrap64 (2 * t154)))) + (wrap64 (2 * (a0.size : Int))))) (a0.size : Int)⟩ : S58)]) (a0.size : Int) (a0.size : Int) (wrap64 (x13_1 + 1))) else (none)) else (impl_ringMoves.l0 k1 a0 x3_1 (a0.size : Int) (a0.size : Int) (wrap64 (x13_1 + 1)))) else (none)) else (none)) else (impl_ringMoves.l0 k1 a0 x3_1 (a0.size : Int) (a0.size : Int) (wrap64 (x13_1 + 1)))))) else (none)) else (none)))) = some r := H
            have A8 := Aside0.mk A80
            clear A80
            by_cases c9 : (a0.size : Int) = 0
            · rw [if_pos c9] at H
              exact absurd H (by simp)
            · rw [if_neg c9] at H
              have c9b0 : ((a0.size : Int) == 0) = false := beq_eq_false_iff_ne.mpr c9
              have c9b1 : ((a0.size : Int) != 0) = true := bne_iff_ne.mpr c9
              by_cases c10 : t154 = 0
              · rw [if_pos c10] at H
                have c10b0 : (t154 == 0) = true := beq_iff_eq.mpr c10
                have c10b1 : (t154 != 0) = false := bne_eq_false_iff_eq.mpr c10
                clear c10
                have H' := Aside0.mk H
                clear H
                have p7 : 0 ≤ (x13_1 : Int) := of_decide_eq_true (by first | (with_reducible assumption) | assumption)
                have q7 : x13_1 < (a0.size : Int) := of_decide_eq_true (by first | (with_reducible assumption) | assumption)
                have hx7 := bt_at a0 x13_1
                replace p7 := eq_true p7
                replace q7 := eq_true q7
                go_wp2_with (first | (go_at_call 58; (with_reducible refine (impl_stepOf.calls (bt a0 x13_1) t154 _ A8.out).mono ?_); rintro e w' ⟨rfl, ⟨nd, rfl⟩⟩; (try first | exact ⟨rfl, _, World.drewN_drewN _ _ _⟩ | exact ⟨rfl, _, Eq.trans (World.drewN_drewN _ _ _) (congrArg (World.drewN _) (Nat.add_assoc _ _ _))⟩)))
                repeat (go_quiet (first | (go_at_call 58; (with_reducible refine (impl_stepOf.calls (bt a0 x13_1) t154 _ A8.out).mono ?_); rintro e w' ⟨rfl, ⟨nd, rfl⟩⟩; (try first | exact ⟨rfl, _, World.drewN_drewN _ _ _⟩ | exact ⟨rfl, _, Eq.trans (World.drewN_drewN _ _ _) (congrArg (World.drewN _) (Nat.add_assoc _ _ _))⟩))); try go_wp2_with (first | (go_at_call 58; (with_reducible refine (impl_stepOf.calls (bt a0 x13_1) t154 _ A8.out).mono ?_); rintro e w' ⟨rfl, ⟨nd, rfl⟩⟩; (try first | exact ⟨rfl, _, World.drewN_drewN _ _ _⟩ | exact ⟨rfl, _, Eq.trans (World.drewN_drewN _ _ _) (congrArg (World.drewN _) (Nat.add_assoc _ _ _))⟩))))
                go_roundg k1
                case measure => have := HK1.out; omega
                case rel => exact ⟨(x3_1), (wrap64 (x13_1 + 1)), (by first | rfl | (simp; done) | (simp [*]; done)), H', ⟨by have := HK1.out; omega⟩, ⟨by (with_reducible repeat (first | apply Kd.R_alloc | apply Kd.R_drewN | apply Kd.R_drew)); exact HO_3.out⟩, ⟨by repeat (first | (with_reducible first | exact HB.out | apply below_alloc | apply pw_below_drewN | apply below_drew1) | exact HB.out)⟩⟩
              · rw [if_neg c10] at H
                have c10b0 : (t154 == 0) = false := beq_eq_false_iff_ne.mpr c10
                have c10b1 : (t154 != 0) = true := bne_iff_ne.mpr c10
                obtain ⟨ji11, hji11⟩ : ∃ j_ : Int, (Int.tmod (wrap64 ((wrap64 (x13_1 + t154)) + (a0.size : Int))) (a0.size : Int)) = j_ := ⟨_, rfl⟩
                replace H : (if 0 ≤ (ji11) then (if (ji11) < (a0.size : Int) then (if (bt a0 (ji11)) = 46 then (if x3_1.length < 8796093022208 then (impl_ringMoves.l0 k1 a0 (x3_1 ++ [(⟨x13_1, ji11⟩ : S58)]) (a0.size : Int) (a0.size : Int) (wrap64 (x13_1 + 1))) else (none)) else ((impl_other.f (bt a0 x13_1)).bind fun t158 => (if (bt a0 (ji11)) = t158 then (if 0 ≤ (Int.tmod (wrap64 ((wrap64 (x13_1 + (wrap64 (2 * t154)))) + (wrap64 (2 * (a0.size : Int))))) (a0.size : Int)) then (if (Int.tmod (wrap64 ((wrap64 (x13_1 + (wrap64 (2 * t154)))) + (wrap64 (2 * (a0.size : Int))))) (a0.size : Int)) < (a0.size : Int) then (if (bt a0 (Int.tmod (wrap64 ((wrap64 (x13_1 + (wrap64 (2 * t154)))) + (wrap64 (2 * (a0.size : Int))))) (a0.size : Int))) = 46 then (if x3_1.length < 8796093022208 then (impl_ringMoves.l0 k1 a0 (x3_1 ++ [(⟨x13_1, Int.tmod (wrap64 ((wrap64 (x13_1 + (wrap64 (2 * t154)))) + (wrap64 (2 * (a0.size : Int))))) (a0.size : Int)⟩ : S58)]) (a0.size : Int) (a0.size : Int) (wrap64 (x13_1 + 1))) else (none)) else (impl_ringMoves.l0 k1 a0 x3_1 (a0.size : Int) (a0.size : Int) (wrap64 (x13_1 + 1)))) else (none)) else (none)) else (impl_ringMoves.l0 k1 a0 x3_1 (a0.size : Int) (a0.size : Int) (wrap64 (x13_1 + 1)))))) else (none)) else (none)) = some r := by first | (rw [hji11] at H; exact H) | (simp only [hji11] at H ⊢; exact H)
                (try rw [hji11] at A8)
                by_cases c12 : 0 ≤ (ji11)
                · rw [if_pos c12] at H
                  have c12b0 : decide (0 ≤ (ji11)) = true := decide_eq_true c12
                  clear c12
                  by_cases c13 : (ji11) < (a0.size : Int)
                  · rw [if_pos c13] at H
                    have c13b0 : decide ((ji11) < (a0.size : Int)) = true := decide_eq_true c13
                    clear c13
                    by_cases c15 : (bt a0 (ji11)) = 46
                    · rw [if_pos c15] at H
                      have c15b0 : ((bt a0 (ji11)) == 46) = true := beq_iff_eq.mpr c15
                      have c15b1 : ((bt a0 (ji11)) != 46) = false := bne_eq_false_iff_eq.mpr c15
                      clear c15
                      by_cases c16 : x3_1.length < 8796093022208
                      · rw [if_pos c16] at H
                        have LMc16 := Aside0.mk c16
                        clear c16
                        obtain ⟨y155, hy155⟩ : ∃ y_ : List (S58), y_ = (x3_1 ++ [(⟨x13_1, ji11⟩ : S58)]) := ⟨_, rfl⟩
                        replace H : (impl_ringMoves.l0 k1 a0 y155 (a0.size : Int) (a0.size : Int) (wrap64 (x13_1 + 1))) = some r := by first | (rw [hy155]; with_reducible exact H) | (have H2_ := (Option.bind_some _ _).symm.trans H; rw [hy155]; with_reducible exact H2_) | (have H2_ := (Option.bind_some _ _).symm.trans H; with_reducible exact H2_) | with_reducible exact H | (rw [hy155]; exact H) | exact H
                        have Ny155 := Aside0.mk hy155
                        clear hy155
                        have H' := Aside0.mk H
                        clear H
                        have p7 : 0 ≤ (x13_1 : Int) := of_decide_eq_true (by first | (with_reducible assumption) | assumption)
                        have q7 : x13_1 < (a0.size : Int) := of_decide_eq_true (by first | (with_reducible assumption) | assumption)
                        have hx7 := bt_at a0 x13_1
                        replace p7 := eq_true p7
                        replace q7 := eq_true q7
                        go_wp2_with (first | (go_at_call 58; (with_reducible refine (impl_stepOf.calls (bt a0 x13_1) t154 _ A8.out).mono ?_); rintro e w' ⟨rfl, ⟨nd, rfl⟩⟩; (try first | exact ⟨rfl, _, World.drewN_drewN _ _ _⟩ | exact ⟨rfl, _, Eq.trans (World.drewN_drewN _ _ _) (congrArg (World.drewN _) (Nat.add_assoc _ _ _))⟩); have p14 : 0 ≤ ((ji11) : Int) := of_decide_eq_true (by first | (with_reducible assumption) | assumption); have q14 : (ji11) < (a0.size : Int) := of_decide_eq_true (by first | (with_reducible assumption) | assumption); have hx14 := bt_at a0 (ji11); replace p14 := eq_true p14; replace q14 := eq_true q14) | ((with_reducible refine gate_builtin (b := .append) (xs := #[.tmp 44, .tmp 48]) rfl ?_); at_builtin; refine Kd.R_append k58 (w0 := w) w.heap.size rfl (.tmp 44) (.tmp 48) 47 58 (.agg #[(.int .i64 0), (.int .i64 0)]) 16 rfl Try.underlying47 info58 rfl (by decide) (by omega) u3 x3_1 (⟨x13_1, ji11⟩ : S58) [.int .i64 x13_1, .int .i64 ji11] (fun _ => True) (fun _ => False) rfl rfl ?aP (fun _ hk => hk.elim) ?aF ?aO ?aB ?aS ?aL ?_; (case aP => exact k58_mkM _ _ _ (⟨x13_1, ji11⟩ : S58)); (case aB => exact (by repeat (first | (with_reducible first | exact HB.out | apply below_alloc | apply pw_below_drewN | apply below_drew1) | exact HB.out))); (case aF => exact (fun _ _ => trivial)); (case aO => exact (by (with_reducible repeat (first | apply Kd.R_alloc | apply Kd.R_drewN | apply Kd.R_drew)); exact HO_3.out)); (case aS => exact (below_size (by repeat (first | (with_reducible first | exact HB.out | apply below_alloc | apply pw_below_drewN | apply below_drew1) | exact HB.out)))); (case aL => have := LMc16.out; omega); intro v156 w17 ho hb hg hat; rw [← Ny155.out] at ho; have n0_ := Aside0.mk (hb); have n1_ := Aside0.mk (ho); clear HB; clear HO_3; have HB := n0_; have HO157 := n1_; clear n0_ n1_; clear ho hb hg hat))
                        repeat (go_quiet (first | (go_at_call 58; (with_reducible refine (impl_stepOf.calls (bt a0 x13_1) t154 _ A8.out).mono ?_); rintro e w' ⟨rfl, ⟨nd, rfl⟩⟩; (try first | exact ⟨rfl, _, World.drewN_drewN _ _ _⟩ | exact ⟨rfl, _, Eq.trans (World.drewN_drewN _ _ _) (congrArg (World.drewN _) (Nat.add_assoc _ _ _))⟩); have p14 : 0 ≤ ((ji11) : Int) := of_decide_eq_true (by first | (with_reducible assumption) | assumption); have q14 : (ji11) < (a0.size : Int) := of_decide_eq_true (by first | (with_reducible assumption) | assumption); have hx14 := bt_at a0 (ji11); replace p14 := eq_true p14; replace q14 := eq_true q14) | ((with_reducible refine gate_builtin (b := .append) (xs := #[.tmp 44, .tmp 48]) rfl ?_); at_builtin; refine Kd.R_append k58 (w0 := w) w.heap.size rfl (.tmp 44) (.tmp 48) 47 58 (.agg #[(.int .i64 0), (.int .i64 0)]) 16 rfl Try.underlying47 info58 rfl (by decide) (by omega) u3 x3_1 (⟨x13_1, ji11⟩ : S58) [.int .i64 x13_1, .int .i64 ji11] (fun _ => True) (fun _ => False) rfl rfl ?aP (fun _ hk => hk.elim) ?aF ?aO ?aB ?aS ?aL ?_; (case aP => exact k58_mkM _ _ _ (⟨x13_1, ji11⟩ : S58)); (case aB => exact (by repeat (first | (with_reducible first | exact HB.out | apply below_alloc | apply pw_below_drewN | apply below_drew1) | exact HB.out))); (case aF => exact (fun _ _ => trivial)); (case aO => exact (by (with_reducible repeat (first | apply Kd.R_alloc | apply Kd.R_drewN | apply Kd.R_drew)); exact HO_3.out)); (case aS => exact (below_size (by repeat (first | (with_reducible first | exact HB.out | apply below_alloc | apply pw_below_drewN | apply below_drew1) | exact HB.out)))); (case aL => have := LMc16.out; omega); intro v156 w17 ho hb hg hat; rw [← Ny155.out] at ho; have n0_ := Aside0.mk (hb); have n1_ := Aside0.mk (ho); clear HB; clear HO_3; have HB := n0_; have HO157 := n1_; clear n0_ n1_; clear ho hb hg hat)); try go_wp2_with (first | (go_at_call 58; (with_reducible refine (impl_stepOf.calls (bt a0 x13_1) t154 _ A8.out).mono ?_); rintro e w' ⟨rfl, ⟨nd, rfl⟩⟩; (try first | exact ⟨rfl, _, World.drewN_drewN _ _ _⟩ | exact ⟨rfl, _, Eq.trans (World.drewN_drewN _ _ _) (congrArg (World.drewN _) (Nat.add_assoc _ _ _))⟩); have p14 : 0 ≤ ((ji11) : Int) := of_decide_eq_true (by first | (with_reducible assumption) | assumption); have q14 : (ji11) < (a0.size : Int) := of_decide_eq_true (by first | (with_reducible assumption) | assumption); have hx14 := bt_at a0 (ji11); replace p14 := eq_true p14; replace q14 := eq_true q14) | ((with_reducible refine gate_builtin (b := .append) (xs := #[.tmp 44, .tmp 48]) rfl ?_); at_builtin; refine Kd.R_append k58 (w0 := w) w.heap.size rfl (.tmp 44) (.tmp 48) 47 58 (.agg #[(.int .i64 0), (.int .i64 0)]) 16 rfl Try.underlying47 info58 rfl (by decide) (by omega) u3 x3_1 (⟨x13_1, ji11⟩ : S58) [.int .i64 x13_1, .int .i64 ji11] (fun _ => True) (fun _ => False) rfl rfl ?aP (fun _ hk => hk.elim) ?aF ?aO ?aB ?aS ?aL ?_; (case aP => exact k58_mkM _ _ _ (⟨x13_1, ji11⟩ : S58)); (case aB => exact (by repeat (first | (with_reducible first | exact HB.out | apply below_alloc | apply pw_below_drewN | apply below_drew1) | exact HB.out))); (case aF => exact (fun _ _ => trivial)); (case aO => exact (by (with_reducible repeat (first | apply Kd.R_alloc | apply Kd.R_drewN | apply Kd.R_drew)); exact HO_3.out)); (case aS => exact (below_size (by repeat (first | (with_reducible first | exact HB.out | apply below_alloc | apply pw_below_drewN | apply below_drew1) | exact HB.out)))); (case aL => have := LMc16.out; omega); intro v156 w17 ho hb hg hat; rw [← Ny155.out] at ho; have n0_ := Aside0.mk (hb); have n1_ := Aside0.mk (ho); clear HB; clear HO_3; have HB := n0_; have HO157 := n1_; clear n0_ n1_; clear ho hb hg hat)))
                        go_roundg k1
                        case measure => have := HK1.out; omega
                        case rel => exact ⟨(y155), (wrap64 (x13_1 + 1)), (by first | rfl | (simp; done) | (simp [*]; done)), H', ⟨by have := HK1.out; omega⟩, ⟨by (with_reducible repeat (first | apply Kd.R_alloc | apply Kd.R_drewN | apply Kd.R_drew)); exact HO157.out⟩, ⟨by repeat (first | (with_reducible first | exact HB.out | apply below_alloc | apply pw_below_drewN | apply below_drew1) | exact HB.out)⟩⟩
                      · rw [if_neg c16] at H
                        exact absurd H (by simp)
                    · rw [if_neg c15] at H
                      have c15b0 : ((bt a0 (ji11)) == 46) = false := beq_eq_false_iff_ne.mpr c15
                      have c15b1 : ((bt a0 (ji11)) != 46) = true := bne_iff_ne.mpr c15
                      replace H := Option.bind_eq_some_iff.mp H
                      obtain ⟨t158, A200, H⟩ := H
                      replace H : (if (bt a0 (ji11)) = t158 then (if 0 ≤ (Int.tmod (wrap64 ((wrap64 (x13_1 + (wrap64 (2 * t154)))) + (wrap64 (2 * (a0.size : Int))))) (a0.size : Int)) then (if (Int.tmod (wrap64 ((wrap64 (x13_1 + (wrap64 (2 * t154)))) + (wrap64 (2 * (a0.size : Int))))) (a0.size : Int)) < (a0.size : Int) then (if (bt a0 (Int.tmod (wrap64 ((wrap64 (x13_1 + (wrap64 (2 * t154)))) + (wrap64 (2 * (a0.size : Int))))) (a0.size : Int))) = 46 then (if x3_1.length < 8796093022208 then (impl_ringMoves.l0 k1 a0 (x3_1 ++ [(⟨x13_1, Int.tmod (wrap64 ((wrap64 (x13_1 + (wrap64 (2 * t154)))) + (wrap64 (2 * (a0.size : Int))))) (a0.size : Int)⟩ : S58)]) (a0.size : Int) (a0.size : Int) (wrap64 (x13_1 + 1))) else (none)) else (impl_ringMoves.l0 k1 a0 x3_1 (a0.size : Int) (a0.size : Int) (wrap64 (x13_1 + 1)))) else (none)) else (none)) else (impl_ringMoves.l0 k1 a0 x3_1 (a0.size : Int) (a0.size : Int) (wrap64 (x13_1 + 1)))) = some r := H
                      have A20 := Aside0.mk A200
                      clear A200
                      by_cases c21 : (bt a0 (ji11)) = t158
                      · rw [if_pos c21] at H
                        have c21b0 : ((bt a0 (ji11)) == t158) = true := beq_iff_eq.mpr c21
                        have c21b1 : ((bt a0 (ji11)) != t158) = false := bne_eq_false_iff_eq.mpr c21
                        clear c21
                        obtain ⟨ji22, hji22⟩ : ∃ j_ : Int, (Int.tmod (wrap64 ((wrap64 (x13_1 + (wrap64 (2 * t154)))) + (wrap64 (2 * (a0.size : Int))))) (a0.size : Int)) = j_ := ⟨_, rfl⟩
                        replace H : (if 0 ≤ (ji22) then (if (ji22) < (a0.size : Int) then (if (bt a0 (ji22)) = 46 then (if x3_1.length < 8796093022208 then (impl_ringMoves.l0 k1 a0 (x3_1 ++ [(⟨x13_1, ji22⟩ : S58)]) (a0.size : Int) (a0.size : Int) (wrap64 (x13_1 + 1))) else (none)) else (impl_ringMoves.l0 k1 a0 x3_1 (a0.size : Int) (a0.size : Int) (wrap64 (x13_1 + 1)))) else (none)) else (none)) = some r := by first | (rw [hji22] at H; exact H) | (simp only [hji22] at H ⊢; exact H)
                        (try rw [hji22] at A8)
                        (try rw [hji22] at A20)
                        by_cases c23 : 0 ≤ (ji22)
                        · rw [if_pos c23] at H
                          have c23b0 : decide (0 ≤ (ji22)) = true := decide_eq_true c23
                          clear c23
                          by_cases c24 : (ji22) < (a0.size : Int)
                          · rw [if_pos c24] at H
                            have c24b0 : decide ((ji22) < (a0.size : Int)) = true := decide_eq_true c24
                            clear c24
                            by_cases c26 : (bt a0 (ji22)) = 46
                            · rw [if_pos c26] at H
                              have c26b0 : ((bt a0 (ji22)) == 46) = true := beq_iff_eq.mpr c26
                              have c26b1 : ((bt a0 (ji22)) != 46) = false := bne_eq_false_iff_eq.mpr c26
                              clear c26
                              by_cases c27 : x3_1.length < 8796093022208
                              · rw [if_pos c27] at H
                                have LMc27 := Aside0.mk c27
                                clear c27
                                obtain ⟨y159, hy159⟩ : ∃ y_ : List (S58), y_ = (x3_1 ++ [(⟨x13_1, ji22⟩ : S58)]) := ⟨_, rfl⟩
                                replace H : (impl_ringMoves.l0 k1 a0 y159 (a0.size : Int) (a0.size : Int) (wrap64 (x13_1 + 1))) = some r := by first | (rw [hy159]; with_reducible exact H) | (have H2_ := (Option.bind_some _ _).symm.trans H; rw [hy159]; with_reducible exact H2_) | (have H2_ := (Option.bind_some _ _).symm.trans H; with_reducible exact H2_) | with_reducible exact H | (rw [hy159]; exact H) | exact H
                                have Ny159 := Aside0.mk hy159
                                clear hy159
                                have H' := Aside0.mk H
                                clear H
                                have p7 : 0 ≤ (x13_1 : Int) := of_decide_eq_true (by first | (with_reducible assumption) | assumption)
                                have q7 : x13_1 < (a0.size : Int) := of_decide_eq_true (by first | (with_reducible assumption) | assumption)
                                have hx7 := bt_at a0 x13_1
                                replace p7 := eq_true p7
                                replace q7 := eq_true q7
                                go_wp2_with (first | (go_at_call 58; (with_reducible refine (impl_stepOf.calls (bt a0 x13_1) t154 _ A8.out).mono ?_); rintro e w' ⟨rfl, ⟨nd, rfl⟩⟩; (try first | exact ⟨rfl, _, World.drewN_drewN _ _ _⟩ | exact ⟨rfl, _, Eq.trans (World.drewN_drewN _ _ _) (congrArg (World.drewN _) (Nat.add_assoc _ _ _))⟩); have p14 : 0 ≤ ((ji11) : Int) := of_decide_eq_true (by first | (with_reducible assumption) | assumption); have q14 : (ji11) < (a0.size : Int) := of_decide_eq_true (by first | (with_reducible assumption) | assumption); have hx14 := bt_at a0 (ji11); replace p14 := eq_true p14; replace q14 := eq_true q14; have p18 : 0 ≤ ((ji11) : Int) := of_decide_eq_true (by first | (with_reducible assumption) | assumption); have q18 : (ji11) < (a0.size : Int) := of_decide_eq_true (by first | (with_reducible assumption) | assumption); have hx18 := bt_at a0 (ji11); replace p18 := eq_true p18; replace q18 := eq_true q18; have p19 : 0 ≤ (x13_1 : Int) := of_decide_eq_true (by first | (with_reducible assumption) | assumption); have q19 : x13_1 < (a0.size : Int) := of_decide_eq_true (by first | (with_reducible assumption) | assumption); have hx19 := bt_at a0 x13_1; replace p19 := eq_true p19; replace q19 := eq_true q19) | (go_at_call 59; (with_reducible refine (impl_other.calls (bt a0 x13_1) t158 _ A20.out).mono ?_); rintro e w' ⟨rfl, ⟨nd, rfl⟩⟩; (try first | exact ⟨rfl, _, World.drewN_drewN _ _ _⟩ | exact ⟨rfl, _, Eq.trans (World.drewN_drewN _ _ _) (congrArg (World.drewN _) (Nat.add_assoc _ _ _))⟩); have p25 : 0 ≤ ((ji22) : Int) := of_decide_eq_true (by first | (with_reducible assumption) | assumption); have q25 : (ji22) < (a0.size : Int) := of_decide_eq_true (by first | (with_reducible assumption) | assumption); have hx25 := bt_at a0 (ji22); replace p25 := eq_true p25; replace q25 := eq_true q25) | ((with_reducible refine gate_builtin (b := .append) (xs := #[.tmp 65, .tmp 69]) rfl ?_); at_builtin; refine Kd.R_append k58 (w0 := w) w.heap.size rfl (.tmp 65) (.tmp 69) 47 58 (.agg #[(.int .i64 0), (.int .i64 0)]) 16 rfl Try.underlying47 info58 rfl (by decide) (by omega) u3 x3_1 (⟨x13_1, ji22⟩ : S58) [.int .i64 x13_1, .int .i64 ji22] (fun _ => True) (fun _ => False) rfl rfl ?aP (fun _ hk => hk.elim) ?aF ?aO ?aB ?aS ?aL ?_; (case aP => exact k58_mkM _ _ _ (⟨x13_1, ji22⟩ : S58)); (case aB => exact (by repeat (first | (with_reducible first | exact HB.out | apply below_alloc | apply pw_below_drewN | apply below_drew1) | exact HB.out))); (case aF => exact (fun _ _ => trivial)); (case aO => exact (by (with_reducible repeat (first | apply Kd.R_alloc | apply Kd.R_drewN | apply Kd.R_drew)); exact HO_3.out)); (case aS => exact (below_size (by repeat (first | (with_reducible first | exact HB.out | apply below_alloc | apply pw_below_drewN | apply below_drew1) | exact HB.out)))); (case aL => have := LMc27.out; omega); intro v160 w28 ho hb hg hat; rw [← Ny159.out] at ho; have n0_ := Aside0.mk (hb); have n1_ := Aside0.mk (ho); clear HB; clear HO_3; have HB := n0_; have HO161 := n1_; clear n0_ n1_; clear ho hb hg hat))
                                repeat (go_quiet (first | (go_at_call 58; (with_reducible refine (impl_stepOf.calls (bt a0 x13_1) t154 _ A8.out).mono ?_); rintro e w' ⟨rfl, ⟨nd, rfl⟩⟩; (try first | exact ⟨rfl, _, World.drewN_drewN _ _ _⟩ | exact ⟨rfl, _, Eq.trans (World.drewN_drewN _ _ _) (congrArg (World.drewN _) (Nat.add_assoc _ _ _))⟩); have p14 : 0 ≤ ((ji11) : Int) := of_decide_eq_true (by first | (with_reducible assumption) | assumption); have q14 : (ji11) < (a0.size : Int) := of_decide_eq_true (by first | (with_reducible assumption) | assumption); have hx14 := bt_at a0 (ji11); replace p14 := eq_true p14; replace q14 := eq_true q14; have p18 : 0 ≤ ((ji11) : Int) := of_decide_eq_true (by first | (with_reducible assumption) | assumption); have q18 : (ji11) < (a0.size : Int) := of_decide_eq_true (by first | (with_reducible assumption) | assumption); have hx18 := bt_at a0 (ji11); replace p18 := eq_true p18; replace q18 := eq_true q18; have p19 : 0 ≤ (x13_1 : Int) := of_decide_eq_true (by first | (with_reducible assumption) | assumption); have q19 : x13_1 < (a0.size : Int) := of_decide_eq_true (by first | (with_reducible assumption) | assumption); have hx19 := bt_at a0 x13_1; replace p19 := eq_true p19; replace q19 := eq_true q19) | (go_at_call 59; (with_reducible refine (impl_other.calls (bt a0 x13_1) t158 _ A20.out).mono ?_); rintro e w' ⟨rfl, ⟨nd, rfl⟩⟩; (try first | exact ⟨rfl, _, World.drewN_drewN _ _ _⟩ | exact ⟨rfl, _, Eq.trans (World.drewN_drewN _ _ _) (congrArg (World.drewN _) (Nat.add_assoc _ _ _))⟩); have p25 : 0 ≤ ((ji22) : Int) := of_decide_eq_true (by first | (with_reducible assumption) | assumption); have q25 : (ji22) < (a0.size : Int) := of_decide_eq_true (by first | (with_reducible assumption) | assumption); have hx25 := bt_at a0 (ji22); replace p25 := eq_true p25; replace q25 := eq_true q25) | ((with_reducible refine gate_builtin (b := .append) (xs := #[.tmp 65, .tmp 69]) rfl ?_); at_builtin; refine Kd.R_append k58 (w0 := w) w.heap.size rfl (.tmp 65) (.tmp 69) 47 58 (.agg #[(.int .i64 0), (.int .i64 0)]) 16 rfl Try.underlying47 info58 rfl (by decide) (by omega) u3 x3_1 (⟨x13_1, ji22⟩ : S58) [.int .i64 x13_1, .int .i64 ji22] (fun _ => True) (fun _ => False) rfl rfl ?aP (fun _ hk => hk.elim) ?aF ?aO ?aB ?aS ?aL ?_; (case aP => exact k58_mkM _ _ _ (⟨x13_1, ji22⟩ : S58)); (case aB => exact (by repeat (first | (with_reducible first | exact HB.out | apply below_alloc | apply pw_below_drewN | apply below_drew1) | exact HB.out))); (case aF => exact (fun _ _ => trivial)); (case aO => exact (by (with_reducible repeat (first | apply Kd.R_alloc | apply Kd.R_drewN | apply Kd.R_drew)); exact HO_3.out)); (case aS => exact (below_size (by repeat (first | (with_reducible first | exact HB.out | apply below_alloc | apply pw_below_drewN | apply below_drew1) | exact HB.out)))); (case aL => have := LMc27.out; omega); intro v160 w28 ho hb hg hat; rw [← Ny159.out] at ho; have n0_ := Aside0.mk (hb); have n1_ := Aside0.mk (ho); clear HB; clear HO_3; have HB := n0_; have HO161 := n1_; clear n0_ n1_; clear ho hb hg hat)); try go_wp2_with (first | (go_at_call 58; (with_reducible refine (impl_stepOf.calls (bt a0 x13_1) t154 _ A8.out).mono ?_); rintro e w' ⟨rfl, ⟨nd, rfl⟩⟩; (try first | exact ⟨rfl, _, World.drewN_drewN _ _ _⟩ | exact ⟨rfl, _, Eq.trans (World.drewN_drewN _ _ _) (congrArg (World.drewN _) (Nat.add_assoc _ _ _))⟩); have p14 : 0 ≤ ((ji11) : Int) := of_decide_eq_true (by first | (with_reducible assumption) | assumption); have q14 : (ji11) < (a0.size : Int) := of_decide_eq_true (by first | (with_reducible assumption) | assumption); have hx14 := bt_at a0 (ji11); replace p14 := eq_true p14; replace q14 := eq_true q14; have p18 : 0 ≤ ((ji11) : Int) := of_decide_eq_true (by first | (with_reducible assumption) | assumption); have q18 : (ji11) < (a0.size : Int) := of_decide_eq_true (by first | (with_reducible assumption) | assumption); have hx18 := bt_at a0 (ji11); replace p18 := eq_true p18; replace q18 := eq_true q18; have p19 : 0 ≤ (x13_1 : Int) := of_decide_eq_true (by first | (with_reducible assumption) | assumption); have q19 : x13_1 < (a0.size : Int) := of_decide_eq_true (by first | (with_reducible assumption) | assumption); have hx19 := bt_at a0 x13_1; replace p19 := eq_true p19; replace q19 := eq_true q19) | (go_at_call 59; (with_reducible refine (impl_other.calls (bt a0 x13_1) t158 _ A20.out).mono ?_); rintro e w' ⟨rfl, ⟨nd, rfl⟩⟩; (try first | exact ⟨rfl, _, World.drewN_drewN _ _ _⟩ | exact ⟨rfl, _, Eq.trans (World.drewN_drewN _ _ _) (congrArg (World.drewN _) (Nat.add_assoc _ _ _))⟩); have p25 : 0 ≤ ((ji22) : Int) := of_decide_eq_true (by first | (with_reducible assumption) | assumption); have q25 : (ji22) < (a0.size : Int) := of_decide_eq_true (by first | (with_reducible assumption) | assumption); have hx25 := bt_at a0 (ji22); replace p25 := eq_true p25; replace q25 := eq_true q25) | ((with_reducible refine gate_builtin (b := .append) (xs := #[.tmp 65, .tmp 69]) rfl ?_); at_builtin; refine Kd.R_append k58 (w0 := w) w.heap.size rfl (.tmp 65) (.tmp 69) 47 58 (.agg #[(.int .i64 0), (.int .i64 0)]) 16 rfl Try.underlying47 info58 rfl (by decide) (by omega) u3 x3_1 (⟨x13_1, ji22⟩ : S58) [.int .i64 x13_1, .int .i64 ji22] (fun _ => True) (fun _ => False) rfl rfl ?aP (fun _ hk => hk.elim) ?aF ?aO ?aB ?aS ?aL ?_; (case aP => exact k58_mkM _ _ _ (⟨x13_1, ji22⟩ : S58)); (case aB => exact (by repeat (first | (with_reducible first | exact HB.out | apply below_alloc | apply pw_below_drewN | apply below_drew1) | exact HB.out))); (case aF => exact (fun _ _ => trivial)); (case aO => exact (by (with_reducible repeat (first | apply Kd.R_alloc | apply Kd.R_drewN | apply Kd.R_drew)); exact HO_3.out)); (case aS => exact (below_size (by repeat (first | (with_reducible first | exact HB.out | apply below_alloc | apply pw_below_drewN | apply below_drew1) | exact HB.out)))); (case aL => have := LMc27.out; omega); intro v160 w28 ho hb hg hat; rw [← Ny159.out] at ho; have n0_ := Aside0.mk (hb); have n1_ := Aside0.mk (ho); clear HB; clear HO_3; have HB := n0_; have HO161 := n1_; clear n0_ n1_; clear ho hb hg hat)))
                                go_roundg k1
                                case measure => have := HK1.out; omega
                                case rel => exact ⟨(y159), (wrap64 (x13_1 + 1)), (by first | rfl | (simp; done) | (simp [*]; done)), H', ⟨by have := HK1.out; omega⟩, ⟨by (with_reducible repeat (first | apply Kd.R_alloc | apply Kd.R_drewN | apply Kd.R_drew)); exact HO161.out⟩, ⟨by repeat (first | (with_reducible first | exact HB.out | apply below_alloc | apply pw_below_drewN | apply below_drew1) | exact HB.out)⟩⟩
                              · rw [if_neg c27] at H
                                exact absurd H (by simp)
                            · rw [if_neg c26] at H
                              have c26b0 : ((bt a0 (ji22)) == 46) = false := beq_eq_false_iff_ne.mpr c26
                              have c26b1 : ((bt a0 (ji22)) != 46) = true := bne_iff_ne.mpr c26
                              have H' := Aside0.mk H
                              clear H
                              have p7 : 0 ≤ (x13_1 : Int) := of_decide_eq_true (by first | (with_reducible assumption) | assumption)
                              have q7 : x13_1 < (a0.size : Int) := of_decide_eq_true (by first | (with_reducible assumption) | assumption)
                              have hx7 := bt_at a0 x13_1
                              replace p7 := eq_true p7
                              replace q7 := eq_true q7
                              go_wp2_with (first | (go_at_call 58; (with_reducible refine (impl_stepOf.calls (bt a0 x13_1) t154 _ A8.out).mono ?_); rintro e w' ⟨rfl, ⟨nd, rfl⟩⟩; (try first | exact ⟨rfl, _, World.drewN_drewN _ _ _⟩ | exact ⟨rfl, _, Eq.trans (World.drewN_drewN _ _ _) (congrArg (World.drewN _) (Nat.add_assoc _ _ _))⟩); have p14 : 0 ≤ ((ji11) : Int) := of_decide_eq_true (by first | (with_reducible assumption) | assumption); have q14 : (ji11) < (a0.size : Int) := of_decide_eq_true (by first | (with_reducible assumption) | assumption); have hx14 := bt_at a0 (ji11); replace p14 := eq_true p14; replace q14 := eq_true q14; have p18 : 0 ≤ ((ji11) : Int) := of_decide_eq_true (by first | (with_reducible assumption) | assumption); have q18 : (ji11) < (a0.size : Int) := of_decide_eq_true (by first | (with_reducible assumption) | assumption); have hx18 := bt_at a0 (ji11); replace p18 := eq_true p18; replace q18 := eq_true q18; have p19 : 0 ≤ (x13_1 : Int) := of_decide_eq_true (by first | (with_reducible assumption) | assumption); have q19 : x13_1 < (a0.size : Int) := of_decide_eq_true (by first | (with_reducible assumption) | assumption); have hx19 := bt_at a0 x13_1; replace p19 := eq_true p19; replace q19 := eq_true q19) | (go_at_call 59; (with_reducible refine (impl_other.calls (bt a0 x13_1) t158 _ A20.out).mono ?_); rintro e w' ⟨rfl, ⟨nd, rfl⟩⟩; (try first | exact ⟨rfl, _, World.drewN_drewN _ _ _⟩ | exact ⟨rfl, _, Eq.trans (World.drewN_drewN _ _ _) (congrArg (World.drewN _) (Nat.add_assoc _ _ _))⟩); have p25 : 0 ≤ ((ji22) : Int) := of_decide_eq_true (by first | (with_reducible assumption) | assumption); have q25 : (ji22) < (a0.size : Int) := of_decide_eq_true (by first | (with_reducible assumption) | assumption); have hx25 := bt_at a0 (ji22); replace p25 := eq_true p25; replace q25 := eq_true q25))
                              repeat (go_quiet (first | (go_at_call 58; (with_reducible refine (impl_stepOf.calls (bt a0 x13_1) t154 _ A8.out).mono ?_); rintro e w' ⟨rfl, ⟨nd, rfl⟩⟩; (try first | exact ⟨rfl, _, World.drewN_drewN _ _ _⟩ | exact ⟨rfl, _, Eq.trans (World.drewN_drewN _ _ _) (congrArg (World.drewN _) (Nat.add_assoc _ _ _))⟩); have p14 : 0 ≤ ((ji11) : Int) := of_decide_eq_true (by first | (with_reducible assumption) | assumption); have q14 : (ji11) < (a0.size : Int) := of_decide_eq_true (by first | (with_reducible assumption) | assumption); have hx14 := bt_at a0 (ji11); replace p14 := eq_true p14; replace q14 := eq_true q14; have p18 : 0 ≤ ((ji11) : Int) := of_decide_eq_true (by first | (with_reducible assumption) | assumption); have q18 : (ji11) < (a0.size : Int) := of_decide_eq_true (by first | (with_reducible assumption) | assumption); have hx18 := bt_at a0 (ji11); replace p18 := eq_true p18; replace q18 := eq_true q18; have p19 : 0 ≤ (x13_1 : Int) := of_decide_eq_true (by first | (with_reducible assumption) | assumption); have q19 : x13_1 < (a0.size : Int) := of_decide_eq_true (by first | (with_reducible assumption) | assumption); have hx19 := bt_at a0 x13_1; replace p19 := eq_true p19; replace q19 := eq_true q19) | (go_at_call 59; (with_reducible refine (impl_other.calls (bt a0 x13_1) t158 _ A20.out).mono ?_); rintro e w' ⟨rfl, ⟨nd, rfl⟩⟩; (try first | exact ⟨rfl, _, World.drewN_drewN _ _ _⟩ | exact ⟨rfl, _, Eq.trans (World.drewN_drewN _ _ _) (congrArg (World.drewN _) (Nat.add_assoc _ _ _))⟩); have p25 : 0 ≤ ((ji22) : Int) := of_decide_eq_true (by first | (with_reducible assumption) | assumption); have q25 : (ji22) < (a0.size : Int) := of_decide_eq_true (by first | (with_reducible assumption) | assumption); have hx25 := bt_at a0 (ji22); replace p25 := eq_true p25; replace q25 := eq_true q25)); try go_wp2_with (first | (go_at_call 58; (with_reducible refine (impl_stepOf.calls (bt a0 x13_1) t154 _ A8.out).mono ?_); rintro e w' ⟨rfl, ⟨nd, rfl⟩⟩; (try first | exact ⟨rfl, _, World.drewN_drewN _ _ _⟩ | exact ⟨rfl, _, Eq.trans (World.drewN_drewN _ _ _) (congrArg (World.drewN _) (Nat.add_assoc _ _ _))⟩); have p14 : 0 ≤ ((ji11) : Int) := of_decide_eq_true (by first | (with_reducible assumption) | assumption); have q14 : (ji11) < (a0.size : Int) := of_decide_eq_true (by first | (with_reducible assumption) | assumption); have hx14 := bt_at a0 (ji11); replace p14 := eq_true p14; replace q14 := eq_true q14; have p18 : 0 ≤ ((ji11) : Int) := of_decide_eq_true (by first | (with_reducible assumption) | assumption); have q18 : (ji11) < (a0.size : Int) := of_decide_eq_true (by first | (with_reducible assumption) | assumption); have hx18 := bt_at a0 (ji11); replace p18 := eq_true p18; replace q18 := eq_true q18; have p19 : 0 ≤ (x13_1 : Int) := of_decide_eq_true (by first | (with_reducible assumption) | assumption); have q19 : x13_1 < (a0.size : Int) := of_decide_eq_true (by first | (with_reducible assumption) | assumption); have hx19 := bt_at a0 x13_1; replace p19 := eq_true p19; replace q19 := eq_true q19) | (go_at_call 59; (with_reducible refine (impl_other.calls (bt a0 x13_1) t158 _ A20.out).mono ?_); rintro e w' ⟨rfl, ⟨nd, rfl⟩⟩; (try first | exact ⟨rfl, _, World.drewN_drewN _ _ _⟩ | exact ⟨rfl, _, Eq.trans (World.drewN_drewN _ _ _) (congrArg (World.drewN _) (Nat.add_assoc _ _ _))⟩); have p25 : 0 ≤ ((ji22) : Int) := of_decide_eq_true (by first | (with_reducible assumption) | assumption); have q25 : (ji22) < (a0.size : Int) := of_decide_eq_true (by first | (with_reducible assumption) | assumption); have hx25 := bt_at a0 (ji22); replace p25 := eq_true p25; replace q25 := eq_true q25)))
                              go_roundg k1
                              case measure => have := HK1.out; omega
                              case rel => exact ⟨(x3_1), (wrap64 (x13_1 + 1)), (by first | rfl | (simp; done) | (simp [*]; done)), H', ⟨by have := HK1.out; omega⟩, ⟨by (with_reducible repeat (first | apply Kd.R_alloc | apply Kd.R_drewN | apply Kd.R_drew)); exact HO_3.out⟩, ⟨by repeat (first | (with_reducible first | exact HB.out | apply below_alloc | apply pw_below_drewN | apply below_drew1) | exact HB.out)⟩⟩
                          · rw [if_neg c24] at H
                            exact absurd H (by simp)
                        · rw [if_neg c23] at H
                          exact absurd H (by simp)
                      · rw [if_neg c21] at H
                        have c21b0 : ((bt a0 (ji11)) == t158) = false := beq_eq_false_iff_ne.mpr c21
                        have c21b1 : ((bt a0 (ji11)) != t158) = true := bne_iff_ne.mpr c21
                        have H' := Aside0.mk H
                        clear H
                        have p7 : 0 ≤ (x13_1 : Int) := of_decide_eq_true (by first | (with_reducible assumption) | assumption)
                        have q7 : x13_1 < (a0.size : Int) := of_decide_eq_true (by first | (with_reducible assumption) | assumption)
                        have hx7 := bt_at a0 x13_1
                        replace p7 := eq_true p7
                        replace q7 := eq_true q7
                        go_wp2_with (first | (go_at_call 58; (with_reducible refine (impl_stepOf.calls (bt a0 x13_1) t154 _ A8.out).mono ?_); rintro e w' ⟨rfl, ⟨nd, rfl⟩⟩; (try first | exact ⟨rfl, _, World.drewN_drewN _ _ _⟩ | exact ⟨rfl, _, Eq.trans (World.drewN_drewN _ _ _) (congrArg (World.drewN _) (Nat.add_assoc _ _ _))⟩); have p14 : 0 ≤ ((ji11) : Int) := of_decide_eq_true (by first | (with_reducible assumption) | assumption); have q14 : (ji11) < (a0.size : Int) := of_decide_eq_true (by first | (with_reducible assumption) | assumption); have hx14 := bt_at a0 (ji11); replace p14 := eq_true p14; replace q14 := eq_true q14; have p18 : 0 ≤ ((ji11) : Int) := of_decide_eq_true (by first | (with_reducible assumption) | assumption); have q18 : (ji11) < (a0.size : Int) := of_decide_eq_true (by first | (with_reducible assumption) | assumption); have hx18 := bt_at a0 (ji11); replace p18 := eq_true p18; replace q18 := eq_true q18; have p19 : 0 ≤ (x13_1 : Int) := of_decide_eq_true (by first | (with_reducible assumption) | assumption); have q19 : x13_1 < (a0.size : Int) := of_decide_eq_true (by first | (with_reducible assumption) | assumption); have hx19 := bt_at a0 x13_1; replace p19 := eq_true p19; replace q19 := eq_true q19) | (go_at_call 59; (with_reducible refine (impl_other.calls (bt a0 x13_1) t158 _ A20.out).mono ?_); rintro e w' ⟨rfl, ⟨nd, rfl⟩⟩; (try first | exact ⟨rfl, _, World.drewN_drewN _ _ _⟩ | exact ⟨rfl, _, Eq.trans (World.drewN_drewN _ _ _) (congrArg (World.drewN _) (Nat.add_assoc _ _ _))⟩)))
                        repeat (go_quiet (first | (go_at_call 58; (with_reducible refine (impl_stepOf.calls (bt a0 x13_1) t154 _ A8.out).mono ?_); rintro e w' ⟨rfl, ⟨nd, rfl⟩⟩; (try first | exact ⟨rfl, _, World.drewN_drewN _ _ _⟩ | exact ⟨rfl, _, Eq.trans (World.drewN_drewN _ _ _) (congrArg (World.drewN _) (Nat.add_assoc _ _ _))⟩); have p14 : 0 ≤ ((ji11) : Int) := of_decide_eq_true (by first | (with_reducible assumption) | assumption); have q14 : (ji11) < (a0.size : Int) := of_decide_eq_true (by first | (with_reducible assumption) | assumption); have hx14 := bt_at a0 (ji11); replace p14 := eq_true p14; replace q14 := eq_true q14; have p18 : 0 ≤ ((ji11) : Int) := of_decide_eq_true (by first | (with_reducible assumption) | assumption); have q18 : (ji11) < (a0.size : Int) := of_decide_eq_true (by first | (with_reducible assumption) | assumption); have hx18 := bt_at a0 (ji11); replace p18 := eq_true p18; replace q18 := eq_true q18; have p19 : 0 ≤ (x13_1 : Int) := of_decide_eq_true (by first | (with_reducible assumption) | assumption); have q19 : x13_1 < (a0.size : Int) := of_decide_eq_true (by first | (with_reducible assumption) | assumption); have hx19 := bt_at a0 x13_1; replace p19 := eq_true p19; replace q19 := eq_true q19) | (go_at_call 59; (with_reducible refine (impl_other.calls (bt a0 x13_1) t158 _ A20.out).mono ?_); rintro e w' ⟨rfl, ⟨nd, rfl⟩⟩; (try first | exact ⟨rfl, _, World.drewN_drewN _ _ _⟩ | exact ⟨rfl, _, Eq.trans (World.drewN_drewN _ _ _) (congrArg (World.drewN _) (Nat.add_assoc _ _ _))⟩))); try go_wp2_with (first | (go_at_call 58; (with_reducible refine (impl_stepOf.calls (bt a0 x13_1) t154 _ A8.out).mono ?_); rintro e w' ⟨rfl, ⟨nd, rfl⟩⟩; (try first | exact ⟨rfl, _, World.drewN_drewN _ _ _⟩ | exact ⟨rfl, _, Eq.trans (World.drewN_drewN _ _ _) (congrArg (World.drewN _) (Nat.add_assoc _ _ _))⟩); have p14 : 0 ≤ ((ji11) : Int) := of_decide_eq_true (by first | (with_reducible assumption) | assumption); have q14 : (ji11) < (a0.size : Int) := of_decide_eq_true (by first | (with_reducible assumption) | assumption); have hx14 := bt_at a0 (ji11); replace p14 := eq_true p14; replace q14 := eq_true q14; have p18 : 0 ≤ ((ji11) : Int) := of_decide_eq_true (by first | (with_reducible assumption) | assumption); have q18 : (ji11) < (a0.size : Int) := of_decide_eq_true (by first | (with_reducible assumption) | assumption); have hx18 := bt_at a0 (ji11); replace p18 := eq_true p18; replace q18 := eq_true q18; have p19 : 0 ≤ (x13_1 : Int) := of_decide_eq_true (by first | (with_reducible assumption) | assumption); have q19 : x13_1 < (a0.size : Int) := of_decide_eq_true (by first | (with_reducible assumption) | assumption); have hx19 := bt_at a0 x13_1; replace p19 := eq_true p19; replace q19 := eq_true q19) | (go_at_call 59; (with_reducible refine (impl_other.calls (bt a0 x13_1) t158 _ A20.out).mono ?_); rintro e w' ⟨rfl, ⟨nd, rfl⟩⟩; (try first | exact ⟨rfl, _, World.drewN_drewN _ _ _⟩ | exact ⟨rfl, _, Eq.trans (World.drewN_drewN _ _ _) (congrArg (World.drewN _) (Nat.add_assoc _ _ _))⟩))))
                        go_roundg k1
                        case measure => have := HK1.out; omega
                        case rel => exact ⟨(x3_1), (wrap64 (x13_1 + 1)), (by first | rfl | (simp; done) | (simp [*]; done)), H', ⟨by have := HK1.out; omega⟩, ⟨by (with_reducible repeat (first | apply Kd.R_alloc | apply Kd.R_drewN | apply Kd.R_drew)); exact HO_3.out⟩, ⟨by repeat (first | (with_reducible first | exact HB.out | apply below_alloc | apply pw_below_drewN | apply below_drew1) | exact HB.out)⟩⟩
                  · rw [if_neg c13] at H
                    exact absurd H (by simp)
                · rw [if_neg c12] at H
                  exact absurd H (by simp)
          · rw [if_neg c6] at H
            exact absurd H (by simp)
        · rw [if_neg c5] at H
          exact absurd H (by simp)
      · rw [if_neg c4] at H
        have c4b0 : decide (x13_1 < (a0.size : Int)) = false := decide_eq_false c4
        clear c4
        obtain rfl := Option.some.inj H
        go_wp2
        repeat (go_quiet (fail); try go_wp2)
        go_ret
        exact ⟨_, by first | rfl | (simp [errW_none, errW_some] <;> rfl) | (simp [*, errW_none, errW_some] <;> rfl), by (with_reducible repeat (first | apply Kd.R_alloc | apply Kd.R_drewN | apply Kd.R_drew)); exact HO_3.out, by repeat (first | (with_reducible first | exact HB.out | apply below_alloc | apply pw_below_drewN | apply below_drew1) | exact HB.out)⟩

/-! ### impl_CountBlockedRings: function 14 (given) -/
section
open Go Go.RowKit Go.Lib Go.Proofs.YtpelhinjoambfaaW.PrintWords Go.Proofs.YtpelhinjoambfaaW.PrintLast Go.Proofs.Ytpelhinjoambfaa.Ranks
-- uses impl_countRings.calls impl_areCounts.calls impl_ringMoves.calls
def blkC (s : ByteArray) : Option Bool := (impl_ringMoves.f 2000 s).bind fun l => some ((l.length : Int) == 0)
set_option maxHeartbeats 4000000 in
set_option maxRecDepth 1000000 in
theorem blkC_call (W : World) (s : ByteArray) (b : Bool) (h : blkC s = some b) : Calls Try.prog 35 (#[.string s] ++ #[]) W fun e W' => e = .returned (.bool b) ∧ Below W.heap.size W W' := by
  unfold blkC at h
  obtain ⟨l, hl, h⟩ := Option.bind_eq_some_iff.mp h
  obtain rfl := Option.some.inj h
  go_enter Try.func35, Try.ntmps35
  go_wp2_with (first | (go_at_call 36; refine (impl_ringMoves.calls 2000 s l _ hl).mono ?_; rintro e w1 ⟨v, rfl, hr, hb1⟩; obtain ⟨A, c, hz⟩ := Kd.R_slice hr; subst hz))
  go_ret
  exact ⟨rfl, hb1⟩
theorem blkC_enters : Enters Try.prog 35 := enters_of Try.func35 (by kernel_rfl) rfl
set_option maxHeartbeats 4000000 in
set_option maxRecDepth 1000000 in
theorem impl_CountBlockedRings.any_ (a0 a1 a2 r1 : Int) (r2 : Bool) (w : World) (hC : Calls Try.prog 33 #[.int .i64 a0, .int .i64 a1, .int .i64 a2, .func (.func 35) #[] #[]] w fun e w' => e = .returned (.tuple #[.int .i64 r1, .bool r2]) ∧ Below w.heap.size w w') :
    Calls Try.prog 14 #[.int .i64 a0, .int .i64 a1, .int .i64 a2] w fun e w' => e = .returned (.tuple #[.int .i64 r1, .bool r2]) ∧ Below w.heap.size w w' := by
  have HC := Aside0.mk hC
  clear hC
  go_enter Try.func14, Try.ntmps14
  go_wp2_with (first
    | (go_at_call 33; refine HC.out.mono ?_; rintro e w1 ⟨rfl, hb1⟩))
  go_ret2
  exact ⟨rfl, hb1⟩
end
/-- how many rings are counted -/
def impl_CountBlockedRings.f (a0 a1 a2 : Int) : Option (Int × Bool) := (impl_areCounts.f a0 a1 a2 9).bind fun r => if r = true then (if 0 ≤ a0 ∧ 0 ≤ a1 ∧ 0 ≤ a2 ∧ a0 + a1 + a2 ≤ 12 then (if a0 + a1 + a2 < 3 then some (0, false) else if (linesAt (a0.toNat + a1.toNat + a2.toNat) a0.toNat a1.toNat a2.toNat []).length ≤ 1000000 then ((cntO (condR blkC) (linesAt (a0.toNat + a1.toNat + a2.toNat) a0.toNat a1.toNat a2.toNat [])).bind fun n => some ((n : Int), true)) else none) else none) else some (0, false)
theorem impl_CountBlockedRings.calls (a0 a1 a2 r1 : Int) (r2 : Bool) (w : World) (h : impl_CountBlockedRings.f a0 a1 a2 = some (r1, r2)) :
    Calls Try.prog 14 #[.int .i64 a0, .int .i64 a1, .int .i64 a2] w fun e w' => e = .returned (.tuple #[.int .i64 r1, .bool r2]) ∧ Below w.heap.size w w' := by
  unfold impl_CountBlockedRings.f at h
  obtain ⟨r, hr, h⟩ := Option.bind_eq_some_iff.mp h
  cases r with
  | false =>
    rw [if_neg (by decide)] at h
    cases h
    exact impl_CountBlockedRings.any_ a0 a1 a2 _ _ w (impl_countRings.no1 35 a0 a1 a2 w hr)
  | true =>
    rw [if_pos rfl] at h
    split at h
    case isFalse => cases h
    rename_i hh
    obtain ⟨t, rfl⟩ : ∃ t : Nat, a0 = (t : Int) := ⟨a0.toNat, (Int.toNat_of_nonneg hh.1).symm⟩
    obtain ⟨g, rfl⟩ : ∃ g : Nat, a1 = (g : Int) := ⟨a1.toNat, (Int.toNat_of_nonneg hh.2.1).symm⟩
    obtain ⟨f, rfl⟩ : ∃ f : Nat, a2 = (f : Int) := ⟨a2.toNat, (Int.toNat_of_nonneg hh.2.2.1).symm⟩
    rw [Int.toNat_natCast, Int.toNat_natCast, Int.toNat_natCast] at h
    split at h
    · cases h
      exact impl_CountBlockedRings.any_ _ _ _ _ _ w (impl_countRings.no2 35 t g f w hr (by omega))
    · split at h
      case isFalse => cases h
      rename_i h3 hl
      obtain ⟨n, hn, h⟩ := Option.bind_eq_some_iff.mp h
      cases h
      exact impl_CountBlockedRings.any_ _ _ _ _ _ w (impl_countRings.walk 35 blkC_enters blkC blkC_call t g f n w hr (by omega) (by omega) hl hn)


end Go.Proofs.Ytpelhinjoambfaa.XC
