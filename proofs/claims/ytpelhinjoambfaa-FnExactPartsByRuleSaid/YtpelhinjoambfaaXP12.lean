/- The Lean functions that the Go functions of this seat compute, each with the proof that the Go function computes it, for every input (laws: FnExactPartsByRule). Conditions: none beyond those that each theorem names. Written by a program of this session over the kit's printer. -/
import Derived.Test.YtpelhinjoambfaaXP0
namespace Go.Proofs.Ytpelhinjoambfaa.XP
open Go.RowKit Go.Proofs.YtpelhinjoambfaaW.PrintWords Go.Proofs.YtpelhinjoambfaaW.PrintLast Go.Proofs.YtpelhinjoambfaaW.PrintMore
attribute [local go_sem] max2_int min2_int max_two min_two max_three min_three max_four min_four   -- for this text's walks alone
attribute [local go_sem] Lib.run_min_strs Go.Proofs.YtpelhinjoambfaaXW.run_min2_strs Go.Proofs.YtpelhinjoambfaaXW.run_int_string
set_option linter.unusedVariables false
set_option linter.unusedSimpArgs false

/-! ### impl_allLines: function 40 (given) -/
section
open Go Go.RowKit Go.Lib Go.Proofs.YtpelhinjoambfaaW.PrintWords Go.Proofs.YtpelhinjoambfaaW.PrintLast Go.Proofs.Ytpelhinjoambfaa.Ranks
theorem al_info : (Try.prog.info? 5).map (fun i => (i.zero, i.size, i.bytes)) = some (some (.int .u8 0), 1, 1) := by kernel_rfl
abbrev TA_ : Nat → Prop := fun _ => True
def bys (l : List UInt8) : List Int := l.map fun b => (b.toNat : Int)
theorem bys_snoc (l : List UInt8) (b : UInt8) : bys (l ++ [b]) = bys l ++ [(b.toNat : Int)] := by simp [bys]
def txt (l : List UInt8) : ByteArray := ⟨l.toArray⟩
/-- the types of the blocks that a walk over all lines leans on -/
def leans (t : Nat) : Bool := t == 40 || (t == 53 || (t == 67 || t == 5))
structure KT (w w' : World) : Prop where
  sz : w.heap.size ≤ w'.heap.size
  kp : ∀ (k : Nat) (cells : Array Value) (t : Nat), w.heap[k]? = some (.cells cells t (0, 0)) → leans t = true → w'.heap[k]? = w.heap[k]?
theorem KT.blk {w w' : World} (h : KT w w') {b t : Nat} {cs : Array Value} (hb : w.heap[b]? = some (.cells cs t (0, 0))) (ht : leans t = true) : w'.heap[b]? = some (.cells cs t (0, 0)) := (h.kp b cs t hb ht).trans hb
theorem KT.row {base : Nat} {w w' : World} {v : Value} {xs : List Int} (h : KT w w') (hr : Kd.R (Kd.int .u8) 5 w base TA_ v xs) : Kd.R (Kd.int .u8) 5 w' base TA_ v xs :=
  Kd.R_mono (Kd.R_move (Kd.R_bound hr) (fun k hk => by
    obtain ⟨q, hq, cells, hc⟩ := hk.2.2.2
    have e : q = 5 := by
      have h1 : (Kd.int .u8).E = [] := rfl
      rw [h1] at hq
      exact List.mem_singleton.1 hq
    exact h.kp k cells q hc (by rw [e]; decide))) (fun _ hk => hk.1)
theorem KT.below {w w' : World} (h : Below w.heap.size w w') : KT w w' := ⟨h.size, fun k cells t hb _ => h.block k (Array.getElem?_eq_some_iff.1 hb).1⟩
theorem KT.trans {w w1 w2 : World} (h : KT w w1) (k : KT w1 w2) : KT w w2 := ⟨Nat.le_trans h.sz k.sz, fun b cells t hb ht => (k.kp b cells t (h.blk hb ht) ht).trans (h.kp b cells t hb ht)⟩
set_option maxHeartbeats 4000000 in
set_option maxRecDepth 1000000 in
theorem clone_nil (w : World) : Calls Try.prog 62 #[.slice none 0 0] w fun e w' => e = .returned (.slice none 0 0) ∧ Below w.heap.size w w' := by
  have hB := Below.refl w.heap.size w
  have hq : ∀ (a : Option Addr) (n c : Nat) (w : World), (binOp .eql 41 (.slice a n c) (.slice none 0 0)).run Try.prog w = .ok (.bool a.isNone) w := fun a n c w => Lib.run_eql_slice_nil w 41 5 a n c 0 0 Try.underlying41
  go_enter Try.func62, Try.ntmps62
  go_wp2
  go_ret
  exact ⟨rfl, hB⟩
set_option maxHeartbeats 4000000 in
set_option maxRecDepth 1000000 in
theorem clone_some (A : Addr) (c base : Nat) (xs : List Int) (w : World) (hl : xs.length ≤ 1000) (hr : Kd.R (Kd.int .u8) 5 w base TA_ (.slice (some A) xs.length c) xs) :
    Calls Try.prog 62 #[.slice (some A) xs.length c] w fun e w' => (∃ v, e = .returned v ∧ Kd.R (Kd.int .u8) 5 w' w.heap.size TA_ v xs) ∧ Below w.heap.size w w' := by
  have HB := Aside0.mk (Below.refl w.heap.size w)
  have HR := Aside0.mk (Kd.R_reads' hr).2.2
  clear hr
  have hq : ∀ (a : Option Addr) (n c : Nat) (w : World), (binOp .eql 41 (.slice a n c) (.slice none 0 0)).run Try.prog w = .ok (.bool a.isNone) w := fun a n c w => Lib.run_eql_slice_nil w 41 5 a n c 0 0 Try.underlying41
  go_enter Try.func62, Try.ntmps62
  go_wp2_with (first
    | ((with_reducible refine gate_dst (N := 5) rfl ?_); refine Kd.R_lit (Kd.int .u8) _ 5 ?hg (N := 5) ?hd (xs := ([] : List Int)) (inner := []) (ok := fun _ => True) (okp := fun _ => True) ?hr ?hp (fun _ hk => hk) trivial (Below.refl _ _) (Nat.le_refl _) (by simp) ?_; (case hd => rfl); (case hg => rfl); (case hr => first | (go_simp; done) | (go_simp; rfl)); (case hp => exact (Reps.none _ _)); intro v1 w1 ho1 hb1 hg1 hx1; have HO1 := Aside0.mk ho1; have HB1 := Aside0.mk hb1; clear ho1 hb1 hg1 hx1)
    | ((with_reducible refine gate_builtin (b := .append) (xs := #[.tmp 5, .tmp 6]) rfl ?_); at_builtin; refine Kd.R_append_rows (Kd.int .u8) (w0 := w) w.heap.size rfl (.tmp 5) (.tmp 6) 41 5 (.int .u8 0) 1 rfl Try.underlying41 al_info rfl (by decide) (by omega) v1 [] xs _ _ _ (fun _ => True) (fun _ => False) rfl rfl HO1.out (Kd.C_below HR.out HB1.out) (fun _ _ h => h) (fun _ h => h.elim) (fun _ _ => trivial) HB1.out HB1.out.size (by simp; omega) ?_; intro v2 w2 ho2 hb2 hg2 hat2))
  go_ret
  exact ⟨⟨_, rfl, ho2⟩, hb2⟩
theorem clone_any (v : Value) (base : Nat) (xs : List Int) (w : World) (hl : xs.length ≤ 1000) (hr : Kd.R (Kd.int .u8) 5 w base TA_ v xs) :
    Calls Try.prog 62 #[v] w fun e w' => (∃ v, e = .returned v ∧ Kd.R (Kd.int .u8) 5 w' w.heap.size TA_ v xs) ∧ Below w.heap.size w w' := by
  obtain ⟨inner, ho⟩ := Kd.R_own hr
  rcases ho.2 with ⟨rfl, h0⟩ | ⟨g, cap, cur, rfl, _⟩
  · have hx : xs = [] := List.length_eq_zero_iff.1 h0
    subst hx
    exact (clone_nil w).mono fun e w' h => ⟨⟨_, h.1, Kd.R_nil _ _ _ _ _⟩, h.2⟩
  · exact clone_some _ cap base xs w hl hr
theorem al_eqI (a b : Int) (w : World) : (Op.equalIn 9999 3 (.int .i64 a) (.int .i64 b)).run Try.prog w = .ok (a == b) w := by kernel_rfl
theorem al_p0 (a b c : Value) (w : World) : (part 3 #[a, b, c] 0).run Try.prog w = .ok a w := by kernel_rfl
theorem al_p1 (a b c : Value) (w : World) : (part 3 #[a, b, c] 1).run Try.prog w = .ok b w := by kernel_rfl
theorem al_p2 (a b c : Value) (w : World) : (part 3 #[a, b, c] 2).run Try.prog w = .ok c w := by kernel_rfl
theorem al_inf3 : ∃ i, Try.prog.info? 3 = some i := by
  have h : (Try.prog.info? 3).isSome = true := by kernel_rfl
  exact Option.isSome_iff_exists.1 h
theorem al_cel3 : Try.prog.cellsOf 3 = 1 := by kernel_rfl
theorem arr_eq (g f t : Int) (w : World) : (binOp .eql 40 (.agg #[.int .i64 g, .int .i64 f, .int .i64 t]) (.agg #[.int .i64 0, .int .i64 0, .int .i64 0])).run Try.prog w = .ok (.bool (g == 0 && (f == 0 && t == 0))) w := by
  obtain ⟨i, hi⟩ := al_inf3
  simp only [binOp, Op.equal, Op.maxDepth, Sem.run_bind]
  rw [show (10000 : Nat) = 9999 + 1 from rfl, run_equalIn_array w 9999 _ _ Try.underlying40 hi, al_cel3]
  have e3 : List.range 3 = [0, 1, 2] := rfl
  rw [e3]
  simp only [Op.eqItems, Sem.run_bind, Nat.zero_mul, Nat.one_mul, Nat.mul_one, al_p0, al_p1, al_p2, al_eqI, Result.andThen_ok]
  cases hg : (g == 0) <;> cases hf : (f == 0) <;> cases ht : (t == 0) <;> simp [hf, ht, al_p1, al_p2, al_eqI]
/-- what a walk over all lines asks of the function that is called -/
structure Each (ge : FuncId) (lb : Array Value) (I : List ByteArray → World → Prop) (Kp : World → World → Prop) (P : ByteArray → Prop) : Prop where
  enters : Enters Try.prog ge
  stay : ∀ done W W', I done W → Below W.heap.size W W' → I done W'
  below : ∀ W W', Below W.heap.size W W' → Kp W W'
  trans : ∀ W W1 W2, Kp W W1 → Kp W1 W2 → Kp W W2
  kt : ∀ W W', Kp W W' → KT W W'
  call : ∀ done s W, done.length < 1000000 → I done W → P s → Calls Try.prog ge (#[.string s] ++ lb) W fun e W' => e = .returned (.tuple #[]) ∧ I (done ++ [s]) W' ∧ Kp W W'
def linesAt (n t g f : Nat) (pre : List UInt8) : List ByteArray := (enum n t g f).map fun l => txt (pre ++ l)
/-- one box of a function that is called, one of the function that calls itself -/
structure Bx (ge : FuncId) (lb : Array Value) (b7 b9 : Nat) (w : World) : Prop where
  e : w.heap[b7]? = some (.cells #[.func (.func ge) #[] lb] 53 (0, 0))
  s : w.heap[b9]? = some (.cells #[.func (.func 61) #[] #[.pointer (some ⟨b7, 0, none⟩), .pointer (some ⟨b9, 0, none⟩)]] 67 (0, 0))
theorem Bx.kt {ge : FuncId} {lb : Array Value} {b7 b9 : Nat} {w w' : World} (h : Bx ge lb b7 b9 w) (k : KT w w') : Bx ge lb b7 b9 w' := ⟨k.blk h.e (by decide), k.blk h.s (by decide)⟩
def PutSays (ge : FuncId) (lb : Array Value) (I : List ByteArray → World → Prop) (Kp : World → World → Prop) (P : ByteArray → Prop) (n : Nat) : Prop :=
  ∀ (t g f : Nat) (pre : List UInt8) (done : List ByteArray) (v : Value) (b7 b9 : Nat) (W : World), n = t + g + f → pre.length + n ≤ 12 → done.length + (linesAt n t g f pre).length ≤ 1000000 → (∀ s ∈ linesAt n t g f pre, P s) → I done W → Bx ge lb b7 b9 W → Kd.R (Kd.int .u8) 5 W 0 TA_ v (bys pre) →
    Calls Try.prog 61 #[v, .agg #[.int .i64 (g : Int), .int .i64 (f : Int), .int .i64 (t : Int)], .pointer (some ⟨b7, 0, none⟩), .pointer (some ⟨b9, 0, none⟩)] W fun e W' => e = .returned (.tuple #[]) ∧ I (done ++ linesAt n t g f pre) W' ∧ Kp W W'
set_option maxHeartbeats 4000000 in
set_option maxRecDepth 1000000 in
theorem put_zero {ge : FuncId} {lb : Array Value} {I : List ByteArray → World → Prop} {Kp : World → World → Prop} {P : ByteArray → Prop} (hE : Each ge lb I Kp P) : PutSays ge lb I Kp P 0 := by
  intro t g f pre done v b7 b9 W hn hl hdl hP hI hB hr
  obtain rfl : t = 0 := by omega
  obtain rfl : g = 0 := by omega
  obtain rfl : f = 0 := by omega
  have eg : ∀ (args : Array Value) (w : World), (callFunc ge args).run Try.prog w = .ok (.enter ge args) w := hE.enters
  have hb1 : Below W.heap.size W (W.alloc (.cells #[.int .i64 0, .int .i64 0, .int .i64 0] 40)) := below_alloc (Below.refl _ _) _
  have hr1 := Kd.R_below hr hb1
  have hcv := own_string (P := Try.prog) Try.underlying41 Try.underlying5 Try.underlying9 (Kd.own_of_R hr1)
  rw [show strOfNums (bys pre) = txt pre from Go.Proofs.YtpelhinjoambfaaXW.nums_str pre] at hcv
  have he := blk_below hB.e hb1
  have hc7 : (W.alloc (.cells #[.int .i64 0, .int .i64 0, .int .i64 0] 40)).cell? ⟨b7, 0, none⟩ = some (.func (.func ge) #[] lb) := (blk_cell he 0).trans rfl
  have haq := arr_eq
  have HE := Aside0.mk (hE.call done (txt pre) _ (by simp [linesAt, enum] at hdl; omega) (hE.stay _ _ _ hI hb1) (hP _ (by simp [linesAt, enum])))
  have HK := Aside0.mk (hE.below _ _ hb1)
  have HT := Aside0.mk hE.trans
  have hlin : linesAt 0 0 0 0 pre = [txt pre] := by simp [linesAt, enum]
  rw [hlin]
  clear hE hP hI hB hr hr1 he
  go_enter Try.func61, Try.ntmps61
  go_wp2_with (first | (go_at_fn ge; refine HE.out.mono ?_; rintro e w1 ⟨rfl, hI1, hk1⟩))
  refine bodyPost_ret (results_none rfl _ _ _) rfl ?_
  exact ⟨rfl, hI1, HT.out _ _ _ HK.out hk1⟩
/-- what the three signs give -/
def Gl (n t g f : Nat) (pre : List UInt8) : List ByteArray := if g = 0 then [] else linesAt n t (g - 1) f (pre ++ [46])
def Fl (n t g f : Nat) (pre : List UInt8) : List ByteArray := if f = 0 then [] else linesAt n t g (f - 1) (pre ++ [70])
def Tl (n t g f : Nat) (pre : List UInt8) : List ByteArray := if t = 0 then [] else linesAt n (t - 1) g f (pre ++ [84])
theorem lines_cons (n t g f : Nat) (pre : List UInt8) (b : UInt8) : (((enum n t g f).map (b :: ·)).map fun l => txt (pre ++ l)) = linesAt n t g f (pre ++ [b]) := by
  unfold linesAt
  rw [List.map_map]
  apply List.map_congr_left
  intro l _
  show txt (pre ++ b :: l) = txt (pre ++ [b] ++ l)
  rw [List.append_assoc, List.singleton_append]
theorem lines_succ (n t g f : Nat) (pre : List UInt8) : linesAt (n + 1) t g f pre = Gl n t g f pre ++ (Fl n t g f pre ++ Tl n t g f pre) := by
  have h : linesAt (n + 1) t g f pre = (enum (n + 1) t g f).map fun l => txt (pre ++ l) := rfl
  rw [h, enum, List.map_append, List.map_append]
  unfold Gl Fl Tl
  congr 1
  · split
    · rfl
    · exact lines_cons n t (g - 1) f pre 46
  · congr 1
    · split
      · rfl
      · exact lines_cons n t g (f - 1) pre 70
    · split
      · rfl
      · exact lines_cons n (t - 1) g f pre 84
def pts (n t g f : Nat) (pre : List UInt8) (s : Nat) : List ByteArray := match s with | 0 => [] | 1 => Gl n t g f pre | 2 => Gl n t g f pre ++ Fl n t g f pre | _ => Gl n t g f pre ++ Fl n t g f pre ++ Tl n t g f pre
theorem al_one {base g : Nat} {w : World} {x : Int} (hb : w.heap[g]? = some (.cells #[.int .u8 x] 5 (0, 0))) (hle : base ≤ g) : Kd.R (Kd.int .u8) 5 w base TA_ (.slice (some ⟨g, 0, none⟩) 1 1) [x] := by
  refine ⟨fun _ _ => trivial, [.int .u8 x], ⟨rfl, .inr ⟨g, 1, #[.int .u8 x], rfl, hle, hb, Nat.le_refl _, by decide, rfl, rfl⟩⟩, ?_⟩
  exact ⟨rfl, fun j p hj => by
    cases j with
    | zero => cases hj; exact rfl
    | succ j => simp at hj⟩
section
variable {P : Program} {ops : Array Oper} {Q : Exit → Act → World → Prop}
theorem goesV_ {oi : Oper} {N : Option Tmp} {a : Act} {w : World} {K : Act → World → Prop} {f : FuncId} {fn : Func} {fv : Tmp} {xs : Array Operand} {ts : Array TypeId} {lb : Array Value} (hf : P.funcs[f]? = some fn) (hname : (fn.name == "runtime.NumGoroutine") = false) (hb : fn.body.isSome = true) (args : Array Value)
    (hw : Region.wanted oi (yielded ops a.tmps) = true) (hN : oi.dst = N) (hop : oi.op = .call { callee := .value (.tmp fv), args := xs, argTypes := ts }) (hfv : a.eval (.tmp fv) = .func (.func f) #[] lb) (hargs : xs.map a.eval ++ lb = args)
    (h : Calls P f args w fun e w' => ∃ v, e = .returned v ∧ K (a.put N v) w') : if Region.wanted oi (yielded ops a.tmps) = true then Oper.wp P oi a w K Q else K (a.put N undef) w := by
  refine call_ f args hw hN ?_ h
  have he := enters_ hf hname hb args w
  unfold execOp
  simp [hop, resolve, Deferred.ofValue, invoke, hfv, hargs, he]
end
set_option maxHeartbeats 4000000 in
set_option maxRecDepth 1000000 in
theorem put_succ {ge : FuncId} {lb : Array Value} {I : List ByteArray → World → Prop} {Kp : World → World → Prop} {P : ByteArray → Prop} (hE : Each ge lb I Kp P) (n : Nat) (ih : PutSays ge lb I Kp P n) : PutSays ge lb I Kp P (n + 1) := by
  intro t g f pre done v b7 b9 W hn hl hdl hP hI hB hr
  have haq := arr_eq
  have hz : ((g : Int) == 0 && ((f : Int) == 0 && (t : Int) == 0)) = false := by
    cases h : ((g : Int) == 0 && ((f : Int) == 0 && (t : Int) == 0)) with
    | false => rfl
    | true =>
      simp only [Bool.and_eq_true, beq_iff_eq] at h
      omega
  have hb1 : Below W.heap.size W (W.alloc (.cells #[.int .i64 (g : Int), .int .i64 (f : Int), .int .i64 (t : Int)] 40)) := below_alloc (Below.refl _ _) _
  have hx1 := blk_new W (.cells #[.int .i64 (g : Int), .int .i64 (f : Int), .int .i64 (t : Int)] 40 (0, 0))
  have hI1 := hE.stay _ _ _ hI hb1
  have hk1 := hE.below _ _ hb1
  have hB1 := hB.kt (KT.below hb1)
  have hr1 := Kd.R_below hr hb1
  clear hI hB hr
  go_enter Try.func61, Try.ntmps61
  go_wp2
  clear hb1
  go_loopw [15] (fun x15 wr => ∃ s : Nat, s ≤ 3 ∧ x15 = .int .i64 (s : Int) ∧ I (done ++ pts n t g f pre s) wr ∧ Bx ge lb b7 b9 wr ∧ wr.heap[W.heap.size]? = some (.cells #[.int .i64 (g : Int), .int .i64 (f : Int), .int .i64 (t : Int)] 40 (0, 0)) ∧ Kd.R (Kd.int .u8) 5 wr 0 TA_ v (bys pre) ∧ Kp W wr) (fun x15 _ => 3 - (RowKit.intOf x15).toNat)
  case atStart => exact ⟨0, by decide, rfl, by rw [show pts n t g f pre 0 = [] from rfl, List.append_nil]; exact hI1, hB1, hx1, hr1, hk1⟩
  case round =>
    clear hI1 hk1 hB1 hr1 hx1
    obtain ⟨s, hs, rfl, hI, hB, hx, hr, hk⟩ := hrel
    have hpl : (bys pre).length ≤ 1000 := by unfold bys; rw [List.length_map]; omega
    by_cases hs3 : s < 3
    · have hdec : decide ((s : Int) < 3) = true := decide_eq_true (by omega)
      have hxc0 : wr.cell? ⟨W.heap.size, 0, none⟩ = some (.int .i64 (g : Int)) := (blk_cell hx 0).trans rfl
      have hxc1 : wr.cell? ⟨W.heap.size, 1, none⟩ = some (.int .i64 (f : Int)) := (blk_cell hx 1).trans rfl
      have hxc2 : wr.cell? ⟨W.heap.size, 2, none⟩ = some (.int .i64 (t : Int)) := (blk_cell hx 2).trans rfl
      rcases (show s = 0 ∨ s = 1 ∨ s = 2 by omega) with rfl | rfl | rfl
      · by_cases hg : g = 0
        · have hd1 : decide ((g : Int) > 0) = false := decide_eq_false (by omega)
          have hd2 : decide ((0 : Int) < (g : Int)) = false := decide_eq_false (by omega)
          have hpt : pts n t g f pre (0 + 1) = pts n t g f pre 0 := by simp only [pts, Gl, if_pos hg, List.append_nil]
          rw [← hpt] at hI
          go_wp2
          exact ⟨⟨0 + 1, by decide, rfl, hI, hB, hx, hr, hk⟩, by simp [RowKit.intOf]⟩
        · have hd1 : decide ((g : Int) > 0) = true := decide_eq_true (by omega)
          have hd2 : decide ((0 : Int) < (g : Int)) = true := decide_eq_true (by omega)
          have ec : ((g : Int) - 1) = ((g - 1 : Nat) : Int) := by omega
          go_wp2_with fail
          (try rw [ec])
          have hb4 : Below wr.heap.size wr (wr.alloc (.cells #[.int .i64 ((g - 1 : Nat) : Int), .int .i64 (f : Int), .int .i64 (t : Int)] 40 (0, 0))).drew := below_drew1 (below_alloc (Below.refl _ _) _)
          have hn4 : (wr.alloc (.cells #[.int .i64 ((g - 1 : Nat) : Int), .int .i64 (f : Int), .int .i64 (t : Int)] 40 (0, 0))).drew.heap[wr.heap.size]? = some (.cells #[.int .i64 ((g - 1 : Nat) : Int), .int .i64 (f : Int), .int .i64 (t : Int)] 40 (0, 0)) := blk_drew (blk_new wr _)
          have hB4 := hB.kt (KT.below hb4)
          have hr4 := Kd.R_below hr hb4
          refine start_ (n := 9) (S := fun w' => w'.cell? ⟨b9, 0, none⟩ = some (.func (.func 61) #[] #[.pointer (some ⟨b7, 0, none⟩), .pointer (some ⟨b9, 0, none⟩)]) ∧ w'.cell? ⟨wr.heap.size, 0, none⟩ = some (.int .i64 ((g - 1 : Nat) : Int)) ∧ w'.cell? ⟨wr.heap.size, 1, none⟩ = some (.int .i64 (f : Int)) ∧ w'.cell? ⟨wr.heap.size, 2, none⟩ = some (.int .i64 (t : Int))) (ds := [8]) #[false, false, false, false, false, false, false, false, false] (by kernel_rfl) rfl rfl ⟨(blk_cell hB4.s 0).trans rfl, (blk_cell hn4 0).trans rfl, (blk_cell hn4 1).trans rfl, (blk_cell hn4 2).trans rfl⟩ (fun hHeld => ?_)
          generalize (wr.alloc (.cells #[.int .i64 ((g - 1 : Nat) : Int), .int .i64 (f : Int), .int .i64 (t : Int)] 40 (0, 0))).drew = W4 at *
          refine take_ (i := 0) (N := some 28) (v := ?_) (a' := ?_) #[true, false, false, false, false, false, false, false, false] rfl rfl (by kernel_rfl) (fun _ _ _ h => h) (Or.inl ⟨by rfl, ?_⟩) hHeld ?_ ?_
          rotate_left
          · rintro w' ⟨s0, s1, s2, s3⟩
            go_simp
            with_reducible rfl
          rotate_left
          · simp only [Act.put, List.setIfInBounds_toArray, List.set_cons_zero, List.set_cons_succ, i64_w, i32_w]
            rfl
          refine pure_ (i := 1) (N := some 29) (v := ?_) (a' := ?_) #[true, true, false, false, false, false, false, false, false] rfl rfl (by kernel_rfl) (fun _ _ _ h => h) (Or.inl ⟨by rfl, ?_⟩) ?_ ?_
          rotate_left
          · intro w'
            go_simp
            with_reducible rfl
          rotate_left
          · simp only [Act.put, List.setIfInBounds_toArray, List.set_cons_zero, List.set_cons_succ, i64_w, i32_w]
            rfl
          refine pure_ (i := 3) (N := some 31) (v := ?_) (a' := ?_) #[true, true, false, true, false, false, false, false, false] rfl rfl (by kernel_rfl) (fun _ _ _ h => h) (Or.inl ⟨by rfl, ?_⟩) ?_ ?_
          rotate_left
          · intro w'
            go_simp
            with_reducible rfl
          rotate_left
          · simp only [Act.put, List.setIfInBounds_toArray, List.set_cons_zero, List.set_cons_succ, i64_w, i32_w]
            rfl
          refine pure_ (i := 4) (N := some 32) (v := ?_) (a' := ?_) #[true, true, false, true, true, false, false, false, false] rfl rfl (by kernel_rfl) (fun _ _ _ h => h) (Or.inl ⟨by rfl, ?_⟩) ?_ ?_
          rotate_left
          · intro w'
            go_simp
            with_reducible rfl
          rotate_left
          · simp only [Act.put, List.setIfInBounds_toArray, List.set_cons_zero, List.set_cons_succ, i64_w, i32_w]
            rfl
          refine take_ (i := 7) (N := some 35) (v := ?_) (a' := ?_) #[true, true, false, true, true, false, false, true, false] rfl rfl (by kernel_rfl) (fun _ _ _ h => h) (Or.inl ⟨by rfl, ?_⟩) hHeld ?_ ?_
          rotate_left
          · rintro w' ⟨s0, s1, s2, s3⟩
            go_simp
            with_reducible rfl
          rotate_left
          · simp only [Act.put, List.setIfInBounds_toArray, List.set_cons_zero, List.set_cons_succ, i64_w, i32_w]
            rfl
          refine two_ (i := 2) (j := 5) (Ni := some 30) (Nj := some 33) #[true, true, true, true, true, false, false, true, false] #[true, true, false, true, true, true, false, true, false] rfl rfl rfl rfl (by kernel_rfl) (by decide) (by decide) (fun K hK => ?_) (fun K hK => ?_)
          · -- the copy first
            refine goes_ Try.func62 (by kernel_rfl) rfl #[v] (by rfl) rfl rfl (by (try simp only [List.map_toArray, List.map_cons, List.map_nil]); first | done | rfl) ?_
            refine (clone_any v 0 (bys pre) _ hpl hr4).mono ?_
            rintro e5 W5 ⟨⟨vc, rfl, hrc⟩, hy⟩
            refine ⟨_, rfl, ?_⟩
            have hb5 := below_weaken hb4 hb4.size hy
            have hB5 := hB4.kt (KT.below hy)
            have hn5 := blk_below hn4 hy
            have hw5 := hy.size
            clear hy hr4 hn4 hB4
            refine hK.out _ _ ⟨(blk_cell hB5.s 0).trans rfl, (blk_cell hn5 0).trans rfl, (blk_cell hn5 1).trans rfl, (blk_cell hn5 2).trans rfl⟩ (fun hHeld => ?_)
            clear hK K
            refine norm_ (a' := ?_) ?_ ?_
            rotate_left
            · show Act.put _ (some 30) _ = _
              simp only [Act.put, List.setIfInBounds_toArray, List.set_cons_zero, List.set_cons_succ, i64_w, i32_w]
              rfl
            refine one_ (i := 5) (N := some 33) #[true, true, true, true, true, true, false, true, false] rfl rfl (by kernel_rfl) (by decide) (fun K hK => ?_)
            refine value_ (by rfl) rfl (v := .slice (some ⟨W5.heap.size, 0, none⟩) 1 1) (w1 := W5.alloc (.cells #[.int .u8 46] 5)) ?_ ?_
            · first | (go_simp; done) | (go_simp; rfl)
            have hy6 := below_alloc (Below.refl W5.heap.size W5) (.cells #[.int .u8 46] 5)
            have hb6 := below_weaken hb5 hb5.size hy6
            have hB6 := hB5.kt (KT.below hy6)
            have hn6 := blk_below hn5 hy6
            have hrow := blk_new W5 (.cells #[.int .u8 46] 5 (0, 0))
            replace hrc := Kd.R_lower (Kd.R_below hrc hy6) hb4.size
            clear hb5 hB5 hn5 hy6
            refine hK.out _ _ ⟨(blk_cell hB6.s 0).trans rfl, (blk_cell hn6 0).trans rfl, (blk_cell hn6 1).trans rfl, (blk_cell hn6 2).trans rfl⟩ (fun hHeld => ?_)
            clear hK K
            refine norm_ (a' := ?_) ?_ ?_
            rotate_left
            · show Act.put _ (some 33) _ = _
              simp only [Act.put, List.setIfInBounds_toArray, List.set_cons_zero, List.set_cons_succ, i64_w, i32_w]
              rfl
            refine one_ (i := 6) (N := some 34) #[true, true, true, true, true, true, true, true, false] rfl rfl (by kernel_rfl) (by decide) (fun K hK => ?_)
            refine Kd.R_append_rows_step (Kd.int .u8) (w0 := wr) wr.heap.size (by rfl) (.tmp 30) (.tmp 33) 41 5 (.int .u8 0) 1 rfl Try.underlying41 al_info rfl (by decide) (by omega) vc (bys pre) [46] (some ⟨W5.heap.size, 0, none⟩) 1 1 (fun _ => True) (fun _ => False) (by rfl) (by rfl) hrc (Kd.R_reads' (al_one (base := 0) hrow (Nat.zero_le _))).2.2 (fun _ _ h => h) (fun _ h => h.elim) (fun _ _ => trivial) hb6 hb6.size (by omega) ?_
            intro v7 w7 ho7 hb7 hg7 hat7
            have hn7 := blk_grown hn6 hg7 (Kd.R_ne hrc hn6 (by decide))
            have hB7 := hB.kt (KT.below hb7)
            refine hK.out _ _ ⟨(blk_cell hB7.s 0).trans rfl, (blk_cell hn7 0).trans rfl, (blk_cell hn7 1).trans rfl, (blk_cell hn7 2).trans rfl⟩ (fun hHeld => ?_)
            clear hK K
            refine norm_ (a' := ?_) ?_ ?_
            rotate_left
            · show Act.put _ (some 34) _ = _
              simp only [Act.put, List.setIfInBounds_toArray, List.set_cons_zero, List.set_cons_succ, i64_w, i32_w]
              rfl
            refine last_ (i := 8) (N := some 36) #[true, true, true, true, true, true, true, true, true] rfl rfl (by kernel_rfl) (by decide) (fun K hK => ?_)
            refine goesV_ Try.func61 (by kernel_rfl) rfl #[v7, .agg #[.int .i64 ((g - 1 : Nat) : Int), .int .i64 (f : Int), .int .i64 (t : Int)], .pointer (some ⟨b7, 0, none⟩), .pointer (some ⟨b9, 0, none⟩)] (by rfl) rfl rfl (by rfl) (by (try simp only [List.map_toArray, List.map_cons, List.map_nil]); first | done | rfl) ?_
            refine (ih t (g - 1) f (pre ++ [46]) (done ++ pts n t g f pre 0) v7 b7 b9 w7 (by omega) (by rw [List.length_append, List.length_singleton]; omega) (by rw [lines_succ, List.length_append, List.length_append] at hdl; have e9 : (linesAt n t (g - 1) f (pre ++ [46])).length = (Gl n t g f pre).length := (by unfold Gl; rw [if_neg hg]); rw [e9]; simp only [pts, List.length_append, List.length_nil]; omega) (fun s hs => hP s (by rw [lines_succ]; unfold Gl Fl Tl; simp only [List.mem_append]; left; rw [if_neg hg]; exact hs)) (hE.stay _ _ _ hI hb7) (hB.kt (KT.below hb7)) (Kd.R_lower (by rw [bys_snoc]; exact ho7) (Nat.zero_le _))).mono ?_
            rintro e8 W8 ⟨rfl, hI8, hk8⟩
            refine ⟨_, rfl, ?_⟩
            have hkk := hE.trans _ _ _ (hE.below _ _ hb7) hk8
            have hkt := hE.kt _ _ hkk
            refine hK.out _ _ ?_
            clear hK K
            refine norm_ (a' := ?_) ?_ ?_
            rotate_left
            · show Act.put _ (some 36) _ = _
              simp only [Act.put, List.setIfInBounds_toArray, List.set_cons_zero, List.set_cons_succ, i64_w, i32_w]
              rfl
            refine done_ (by kernel_rfl) ?_
            have hpt : pts n t g f pre (0 + 1) = pts n t g f pre 0 ++ linesAt n t (g - 1) f (pre ++ [46]) := by
              simp only [pts, Gl, if_neg hg, List.nil_append]
            rw [List.append_assoc, ← hpt] at hI8
            go_wp2
            exact ⟨⟨0 + 1, by decide, rfl, hI8, hB.kt hkt, hkt.blk hx (by decide), hkt.row hr, hE.trans _ _ _ hk hkk⟩, by simp [RowKit.intOf]⟩
          · -- the new sign first
            refine value_ (by rfl) rfl (v := .slice (some ⟨W4.heap.size, 0, none⟩) 1 1) (w1 := W4.alloc (.cells #[.int .u8 46] 5)) ?_ ?_
            · first | (go_simp; done) | (go_simp; rfl)
            have hy5 := below_alloc (Below.refl W4.heap.size W4) (.cells #[.int .u8 46] 5)
            have hb5 := below_weaken hb4 hb4.size hy5
            have hB5 := hB4.kt (KT.below hy5)
            have hn5 := blk_below hn4 hy5
            have hr5 := Kd.R_below hr4 hy5
            have hrow5 := blk_new W4 (.cells #[.int .u8 46] 5 (0, 0))
            clear hr4 hn4 hB4 hy5
            refine hK.out _ _ ⟨(blk_cell hB5.s 0).trans rfl, (blk_cell hn5 0).trans rfl, (blk_cell hn5 1).trans rfl, (blk_cell hn5 2).trans rfl⟩ (fun hHeld => ?_)
            clear hK K
            refine norm_ (a' := ?_) ?_ ?_
            rotate_left
            · show Act.put _ (some 33) _ = _
              simp only [Act.put, List.setIfInBounds_toArray, List.set_cons_zero, List.set_cons_succ, i64_w, i32_w]
              rfl
            refine one_ (i := 2) (N := some 30) #[true, true, true, true, true, true, false, true, false] rfl rfl (by kernel_rfl) (by decide) (fun K hK => ?_)
            refine goes_ Try.func62 (by kernel_rfl) rfl #[v] (by rfl) rfl rfl (by (try simp only [List.map_toArray, List.map_cons, List.map_nil]); first | done | rfl) ?_
            refine (clone_any v 0 (bys pre) _ hpl hr5).mono ?_
            rintro e5 W6 ⟨⟨vc, rfl, hrc⟩, hy⟩
            refine ⟨_, rfl, ?_⟩
            have hb6 := below_weaken hb5 hb5.size hy
            have hB6 := hB5.kt (KT.below hy)
            have hn6 := blk_below hn5 hy
            have hrow := blk_below hrow5 hy
            replace hrc := Kd.R_lower hrc hb5.size
            clear hb5 hB5 hn5 hy hr5 hrow5
            refine hK.out _ _ ⟨(blk_cell hB6.s 0).trans rfl, (blk_cell hn6 0).trans rfl, (blk_cell hn6 1).trans rfl, (blk_cell hn6 2).trans rfl⟩ (fun hHeld => ?_)
            clear hK K
            refine norm_ (a' := ?_) ?_ ?_
            rotate_left
            · show Act.put _ (some 30) _ = _
              simp only [Act.put, List.setIfInBounds_toArray, List.set_cons_zero, List.set_cons_succ, i64_w, i32_w]
              rfl
            refine one_ (i := 6) (N := some 34) #[true, true, true, true, true, true, true, true, false] rfl rfl (by kernel_rfl) (by decide) (fun K hK => ?_)
            refine Kd.R_append_rows_step (Kd.int .u8) (w0 := wr) wr.heap.size (by rfl) (.tmp 30) (.tmp 33) 41 5 (.int .u8 0) 1 rfl Try.underlying41 al_info rfl (by decide) (by omega) vc (bys pre) [46] (some ⟨W4.heap.size, 0, none⟩) 1 1 (fun _ => True) (fun _ => False) (by rfl) (by rfl) hrc (Kd.R_reads' (al_one (base := 0) hrow (Nat.zero_le _))).2.2 (fun _ _ h => h) (fun _ h => h.elim) (fun _ _ => trivial) hb6 hb6.size (by omega) ?_
            intro v7 w7 ho7 hb7 hg7 hat7
            have hn7 := blk_grown hn6 hg7 (Kd.R_ne hrc hn6 (by decide))
            have hB7 := hB.kt (KT.below hb7)
            refine hK.out _ _ ⟨(blk_cell hB7.s 0).trans rfl, (blk_cell hn7 0).trans rfl, (blk_cell hn7 1).trans rfl, (blk_cell hn7 2).trans rfl⟩ (fun hHeld => ?_)
            clear hK K
            refine norm_ (a' := ?_) ?_ ?_
            rotate_left
            · show Act.put _ (some 34) _ = _
              simp only [Act.put, List.setIfInBounds_toArray, List.set_cons_zero, List.set_cons_succ, i64_w, i32_w]
              rfl
            refine last_ (i := 8) (N := some 36) #[true, true, true, true, true, true, true, true, true] rfl rfl (by kernel_rfl) (by decide) (fun K hK => ?_)
            refine goesV_ Try.func61 (by kernel_rfl) rfl #[v7, .agg #[.int .i64 ((g - 1 : Nat) : Int), .int .i64 (f : Int), .int .i64 (t : Int)], .pointer (some ⟨b7, 0, none⟩), .pointer (some ⟨b9, 0, none⟩)] (by rfl) rfl rfl (by rfl) (by (try simp only [List.map_toArray, List.map_cons, List.map_nil]); first | done | rfl) ?_
            refine (ih t (g - 1) f (pre ++ [46]) (done ++ pts n t g f pre 0) v7 b7 b9 w7 (by omega) (by rw [List.length_append, List.length_singleton]; omega) (by rw [lines_succ, List.length_append, List.length_append] at hdl; have e9 : (linesAt n t (g - 1) f (pre ++ [46])).length = (Gl n t g f pre).length := (by unfold Gl; rw [if_neg hg]); rw [e9]; simp only [pts, List.length_append, List.length_nil]; omega) (fun s hs => hP s (by rw [lines_succ]; unfold Gl Fl Tl; simp only [List.mem_append]; left; rw [if_neg hg]; exact hs)) (hE.stay _ _ _ hI hb7) (hB.kt (KT.below hb7)) (Kd.R_lower (by rw [bys_snoc]; exact ho7) (Nat.zero_le _))).mono ?_
            rintro e8 W8 ⟨rfl, hI8, hk8⟩
            refine ⟨_, rfl, ?_⟩
            have hkk := hE.trans _ _ _ (hE.below _ _ hb7) hk8
            have hkt := hE.kt _ _ hkk
            refine hK.out _ _ ?_
            clear hK K
            refine norm_ (a' := ?_) ?_ ?_
            rotate_left
            · show Act.put _ (some 36) _ = _
              simp only [Act.put, List.setIfInBounds_toArray, List.set_cons_zero, List.set_cons_succ, i64_w, i32_w]
              rfl
            refine done_ (by kernel_rfl) ?_
            have hpt : pts n t g f pre (0 + 1) = pts n t g f pre 0 ++ linesAt n t (g - 1) f (pre ++ [46]) := by
              simp only [pts, Gl, if_neg hg, List.nil_append]
            rw [List.append_assoc, ← hpt] at hI8
            go_wp2
            exact ⟨⟨0 + 1, by decide, rfl, hI8, hB.kt hkt, hkt.blk hx (by decide), hkt.row hr, hE.trans _ _ _ hk hkk⟩, by simp [RowKit.intOf]⟩
      · by_cases hf : f = 0
        · have hd1 : decide ((f : Int) > 0) = false := decide_eq_false (by omega)
          have hd2 : decide ((0 : Int) < (f : Int)) = false := decide_eq_false (by omega)
          have hpt : pts n t g f pre (1 + 1) = pts n t g f pre 1 := by simp only [pts, Fl, if_pos hf, List.append_nil]
          rw [← hpt] at hI
          go_wp2
          exact ⟨⟨1 + 1, by decide, rfl, hI, hB, hx, hr, hk⟩, by simp [RowKit.intOf]⟩
        · have hd1 : decide ((f : Int) > 0) = true := decide_eq_true (by omega)
          have hd2 : decide ((0 : Int) < (f : Int)) = true := decide_eq_true (by omega)
          have ec : ((f : Int) - 1) = ((f - 1 : Nat) : Int) := by omega
          go_wp2_with fail
          (try rw [ec])
          have hb4 : Below wr.heap.size wr (wr.alloc (.cells #[.int .i64 (g : Int), .int .i64 ((f - 1 : Nat) : Int), .int .i64 (t : Int)] 40 (0, 0))).drew := below_drew1 (below_alloc (Below.refl _ _) _)
          have hn4 : (wr.alloc (.cells #[.int .i64 (g : Int), .int .i64 ((f - 1 : Nat) : Int), .int .i64 (t : Int)] 40 (0, 0))).drew.heap[wr.heap.size]? = some (.cells #[.int .i64 (g : Int), .int .i64 ((f - 1 : Nat) : Int), .int .i64 (t : Int)] 40 (0, 0)) := blk_drew (blk_new wr _)
          have hB4 := hB.kt (KT.below hb4)
          have hr4 := Kd.R_below hr hb4
          refine start_ (n := 9) (S := fun w' => w'.cell? ⟨b9, 0, none⟩ = some (.func (.func 61) #[] #[.pointer (some ⟨b7, 0, none⟩), .pointer (some ⟨b9, 0, none⟩)]) ∧ w'.cell? ⟨wr.heap.size, 0, none⟩ = some (.int .i64 (g : Int)) ∧ w'.cell? ⟨wr.heap.size, 1, none⟩ = some (.int .i64 ((f - 1 : Nat) : Int)) ∧ w'.cell? ⟨wr.heap.size, 2, none⟩ = some (.int .i64 (t : Int))) (ds := [8]) #[false, false, false, false, false, false, false, false, false] (by kernel_rfl) rfl rfl ⟨(blk_cell hB4.s 0).trans rfl, (blk_cell hn4 0).trans rfl, (blk_cell hn4 1).trans rfl, (blk_cell hn4 2).trans rfl⟩ (fun hHeld => ?_)
          generalize (wr.alloc (.cells #[.int .i64 (g : Int), .int .i64 ((f - 1 : Nat) : Int), .int .i64 (t : Int)] 40 (0, 0))).drew = W4 at *
          refine take_ (i := 0) (N := some 28) (v := ?_) (a' := ?_) #[true, false, false, false, false, false, false, false, false] rfl rfl (by kernel_rfl) (fun _ _ _ h => h) (Or.inl ⟨by rfl, ?_⟩) hHeld ?_ ?_
          rotate_left
          · rintro w' ⟨s0, s1, s2, s3⟩
            go_simp
            with_reducible rfl
          rotate_left
          · simp only [Act.put, List.setIfInBounds_toArray, List.set_cons_zero, List.set_cons_succ, i64_w, i32_w]
            rfl
          refine pure_ (i := 1) (N := some 29) (v := ?_) (a' := ?_) #[true, true, false, false, false, false, false, false, false] rfl rfl (by kernel_rfl) (fun _ _ _ h => h) (Or.inl ⟨by rfl, ?_⟩) ?_ ?_
          rotate_left
          · intro w'
            go_simp
            with_reducible rfl
          rotate_left
          · simp only [Act.put, List.setIfInBounds_toArray, List.set_cons_zero, List.set_cons_succ, i64_w, i32_w]
            rfl
          refine pure_ (i := 3) (N := some 31) (v := ?_) (a' := ?_) #[true, true, false, true, false, false, false, false, false] rfl rfl (by kernel_rfl) (fun _ _ _ h => h) (Or.inl ⟨by rfl, ?_⟩) ?_ ?_
          rotate_left
          · intro w'
            go_simp
            with_reducible rfl
          rotate_left
          · simp only [Act.put, List.setIfInBounds_toArray, List.set_cons_zero, List.set_cons_succ, i64_w, i32_w]
            rfl
          refine pure_ (i := 4) (N := some 32) (v := ?_) (a' := ?_) #[true, true, false, true, true, false, false, false, false] rfl rfl (by kernel_rfl) (fun _ _ _ h => h) (Or.inl ⟨by rfl, ?_⟩) ?_ ?_
          rotate_left
          · intro w'
            go_simp
            with_reducible rfl
          rotate_left
          · simp only [Act.put, List.setIfInBounds_toArray, List.set_cons_zero, List.set_cons_succ, i64_w, i32_w]
            rfl
          refine take_ (i := 7) (N := some 35) (v := ?_) (a' := ?_) #[true, true, false, true, true, false, false, true, false] rfl rfl (by kernel_rfl) (fun _ _ _ h => h) (Or.inl ⟨by rfl, ?_⟩) hHeld ?_ ?_
          rotate_left
          · rintro w' ⟨s0, s1, s2, s3⟩
            go_simp
            with_reducible rfl
          rotate_left
          · simp only [Act.put, List.setIfInBounds_toArray, List.set_cons_zero, List.set_cons_succ, i64_w, i32_w]
            rfl
          refine two_ (i := 2) (j := 5) (Ni := some 30) (Nj := some 33) #[true, true, true, true, true, false, false, true, false] #[true, true, false, true, true, true, false, true, false] rfl rfl rfl rfl (by kernel_rfl) (by decide) (by decide) (fun K hK => ?_) (fun K hK => ?_)
          · -- the copy first
            refine goes_ Try.func62 (by kernel_rfl) rfl #[v] (by rfl) rfl rfl (by (try simp only [List.map_toArray, List.map_cons, List.map_nil]); first | done | rfl) ?_
            refine (clone_any v 0 (bys pre) _ hpl hr4).mono ?_
            rintro e5 W5 ⟨⟨vc, rfl, hrc⟩, hy⟩
            refine ⟨_, rfl, ?_⟩
            have hb5 := below_weaken hb4 hb4.size hy
            have hB5 := hB4.kt (KT.below hy)
            have hn5 := blk_below hn4 hy
            have hw5 := hy.size
            clear hy hr4 hn4 hB4
            refine hK.out _ _ ⟨(blk_cell hB5.s 0).trans rfl, (blk_cell hn5 0).trans rfl, (blk_cell hn5 1).trans rfl, (blk_cell hn5 2).trans rfl⟩ (fun hHeld => ?_)
            clear hK K
            refine norm_ (a' := ?_) ?_ ?_
            rotate_left
            · show Act.put _ (some 30) _ = _
              simp only [Act.put, List.setIfInBounds_toArray, List.set_cons_zero, List.set_cons_succ, i64_w, i32_w]
              rfl
            refine one_ (i := 5) (N := some 33) #[true, true, true, true, true, true, false, true, false] rfl rfl (by kernel_rfl) (by decide) (fun K hK => ?_)
            refine value_ (by rfl) rfl (v := .slice (some ⟨W5.heap.size, 0, none⟩) 1 1) (w1 := W5.alloc (.cells #[.int .u8 70] 5)) ?_ ?_
            · first | (go_simp; done) | (go_simp; rfl)
            have hy6 := below_alloc (Below.refl W5.heap.size W5) (.cells #[.int .u8 70] 5)
            have hb6 := below_weaken hb5 hb5.size hy6
            have hB6 := hB5.kt (KT.below hy6)
            have hn6 := blk_below hn5 hy6
            have hrow := blk_new W5 (.cells #[.int .u8 70] 5 (0, 0))
            replace hrc := Kd.R_lower (Kd.R_below hrc hy6) hb4.size
            clear hb5 hB5 hn5 hy6
            refine hK.out _ _ ⟨(blk_cell hB6.s 0).trans rfl, (blk_cell hn6 0).trans rfl, (blk_cell hn6 1).trans rfl, (blk_cell hn6 2).trans rfl⟩ (fun hHeld => ?_)
            clear hK K
            refine norm_ (a' := ?_) ?_ ?_
            rotate_left
            · show Act.put _ (some 33) _ = _
              simp only [Act.put, List.setIfInBounds_toArray, List.set_cons_zero, List.set_cons_succ, i64_w, i32_w]
              rfl
            refine one_ (i := 6) (N := some 34) #[true, true, true, true, true, true, true, true, false] rfl rfl (by kernel_rfl) (by decide) (fun K hK => ?_)
            refine Kd.R_append_rows_step (Kd.int .u8) (w0 := wr) wr.heap.size (by rfl) (.tmp 30) (.tmp 33) 41 5 (.int .u8 0) 1 rfl Try.underlying41 al_info rfl (by decide) (by omega) vc (bys pre) [70] (some ⟨W5.heap.size, 0, none⟩) 1 1 (fun _ => True) (fun _ => False) (by rfl) (by rfl) hrc (Kd.R_reads' (al_one (base := 0) hrow (Nat.zero_le _))).2.2 (fun _ _ h => h) (fun _ h => h.elim) (fun _ _ => trivial) hb6 hb6.size (by omega) ?_
            intro v7 w7 ho7 hb7 hg7 hat7
            have hn7 := blk_grown hn6 hg7 (Kd.R_ne hrc hn6 (by decide))
            have hB7 := hB.kt (KT.below hb7)
            refine hK.out _ _ ⟨(blk_cell hB7.s 0).trans rfl, (blk_cell hn7 0).trans rfl, (blk_cell hn7 1).trans rfl, (blk_cell hn7 2).trans rfl⟩ (fun hHeld => ?_)
            clear hK K
            refine norm_ (a' := ?_) ?_ ?_
            rotate_left
            · show Act.put _ (some 34) _ = _
              simp only [Act.put, List.setIfInBounds_toArray, List.set_cons_zero, List.set_cons_succ, i64_w, i32_w]
              rfl
            refine last_ (i := 8) (N := some 36) #[true, true, true, true, true, true, true, true, true] rfl rfl (by kernel_rfl) (by decide) (fun K hK => ?_)
            refine goesV_ Try.func61 (by kernel_rfl) rfl #[v7, .agg #[.int .i64 (g : Int), .int .i64 ((f - 1 : Nat) : Int), .int .i64 (t : Int)], .pointer (some ⟨b7, 0, none⟩), .pointer (some ⟨b9, 0, none⟩)] (by rfl) rfl rfl (by rfl) (by (try simp only [List.map_toArray, List.map_cons, List.map_nil]); first | done | rfl) ?_
            refine (ih t g (f - 1) (pre ++ [70]) (done ++ pts n t g f pre 1) v7 b7 b9 w7 (by omega) (by rw [List.length_append, List.length_singleton]; omega) (by rw [lines_succ, List.length_append, List.length_append] at hdl; have e9 : (linesAt n t g (f - 1) (pre ++ [70])).length = (Fl n t g f pre).length := (by unfold Fl; rw [if_neg hf]); rw [e9]; simp only [pts, List.length_append, List.length_nil]; omega) (fun s hs => hP s (by rw [lines_succ]; unfold Gl Fl Tl; simp only [List.mem_append]; right; left; rw [if_neg hf]; exact hs)) (hE.stay _ _ _ hI hb7) (hB.kt (KT.below hb7)) (Kd.R_lower (by rw [bys_snoc]; exact ho7) (Nat.zero_le _))).mono ?_
            rintro e8 W8 ⟨rfl, hI8, hk8⟩
            refine ⟨_, rfl, ?_⟩
            have hkk := hE.trans _ _ _ (hE.below _ _ hb7) hk8
            have hkt := hE.kt _ _ hkk
            refine hK.out _ _ ?_
            clear hK K
            refine norm_ (a' := ?_) ?_ ?_
            rotate_left
            · show Act.put _ (some 36) _ = _
              simp only [Act.put, List.setIfInBounds_toArray, List.set_cons_zero, List.set_cons_succ, i64_w, i32_w]
              rfl
            refine done_ (by kernel_rfl) ?_
            have hpt : pts n t g f pre (1 + 1) = pts n t g f pre 1 ++ linesAt n t g (f - 1) (pre ++ [70]) := by
              simp only [pts, Fl, if_neg hf, List.nil_append]
            rw [List.append_assoc, ← hpt] at hI8
            go_wp2
            exact ⟨⟨1 + 1, by decide, rfl, hI8, hB.kt hkt, hkt.blk hx (by decide), hkt.row hr, hE.trans _ _ _ hk hkk⟩, by simp [RowKit.intOf]⟩
          · -- the new sign first
            refine value_ (by rfl) rfl (v := .slice (some ⟨W4.heap.size, 0, none⟩) 1 1) (w1 := W4.alloc (.cells #[.int .u8 70] 5)) ?_ ?_
            · first | (go_simp; done) | (go_simp; rfl)
            have hy5 := below_alloc (Below.refl W4.heap.size W4) (.cells #[.int .u8 70] 5)
            have hb5 := below_weaken hb4 hb4.size hy5
            have hB5 := hB4.kt (KT.below hy5)
            have hn5 := blk_below hn4 hy5
            have hr5 := Kd.R_below hr4 hy5
            have hrow5 := blk_new W4 (.cells #[.int .u8 70] 5 (0, 0))
            clear hr4 hn4 hB4 hy5
            refine hK.out _ _ ⟨(blk_cell hB5.s 0).trans rfl, (blk_cell hn5 0).trans rfl, (blk_cell hn5 1).trans rfl, (blk_cell hn5 2).trans rfl⟩ (fun hHeld => ?_)
            clear hK K
            refine norm_ (a' := ?_) ?_ ?_
            rotate_left
            · show Act.put _ (some 33) _ = _
              simp only [Act.put, List.setIfInBounds_toArray, List.set_cons_zero, List.set_cons_succ, i64_w, i32_w]
              rfl
            refine one_ (i := 2) (N := some 30) #[true, true, true, true, true, true, false, true, false] rfl rfl (by kernel_rfl) (by decide) (fun K hK => ?_)
            refine goes_ Try.func62 (by kernel_rfl) rfl #[v] (by rfl) rfl rfl (by (try simp only [List.map_toArray, List.map_cons, List.map_nil]); first | done | rfl) ?_
            refine (clone_any v 0 (bys pre) _ hpl hr5).mono ?_
            rintro e5 W6 ⟨⟨vc, rfl, hrc⟩, hy⟩
            refine ⟨_, rfl, ?_⟩
            have hb6 := below_weaken hb5 hb5.size hy
            have hB6 := hB5.kt (KT.below hy)
            have hn6 := blk_below hn5 hy
            have hrow := blk_below hrow5 hy
            replace hrc := Kd.R_lower hrc hb5.size
            clear hb5 hB5 hn5 hy hr5 hrow5
            refine hK.out _ _ ⟨(blk_cell hB6.s 0).trans rfl, (blk_cell hn6 0).trans rfl, (blk_cell hn6 1).trans rfl, (blk_cell hn6 2).trans rfl⟩ (fun hHeld => ?_)
            clear hK K
            refine norm_ (a' := ?_) ?_ ?_
            rotate_left
            · show Act.put _ (some 30) _ = _
              simp only [Act.put, List.setIfInBounds_toArray, List.set_cons_zero, List.set_cons_succ, i64_w, i32_w]
              rfl
            refine one_ (i := 6) (N := some 34) #[true, true, true, true, true, true, true, true, false] rfl rfl (by kernel_rfl) (by decide) (fun K hK => ?_)
            refine Kd.R_append_rows_step (Kd.int .u8) (w0 := wr) wr.heap.size (by rfl) (.tmp 30) (.tmp 33) 41 5 (.int .u8 0) 1 rfl Try.underlying41 al_info rfl (by decide) (by omega) vc (bys pre) [70] (some ⟨W4.heap.size, 0, none⟩) 1 1 (fun _ => True) (fun _ => False) (by rfl) (by rfl) hrc (Kd.R_reads' (al_one (base := 0) hrow (Nat.zero_le _))).2.2 (fun _ _ h => h) (fun _ h => h.elim) (fun _ _ => trivial) hb6 hb6.size (by omega) ?_
            intro v7 w7 ho7 hb7 hg7 hat7
            have hn7 := blk_grown hn6 hg7 (Kd.R_ne hrc hn6 (by decide))
            have hB7 := hB.kt (KT.below hb7)
            refine hK.out _ _ ⟨(blk_cell hB7.s 0).trans rfl, (blk_cell hn7 0).trans rfl, (blk_cell hn7 1).trans rfl, (blk_cell hn7 2).trans rfl⟩ (fun hHeld => ?_)
            clear hK K
            refine norm_ (a' := ?_) ?_ ?_
            rotate_left
            · show Act.put _ (some 34) _ = _
              simp only [Act.put, List.setIfInBounds_toArray, List.set_cons_zero, List.set_cons_succ, i64_w, i32_w]
              rfl
            refine last_ (i := 8) (N := some 36) #[true, true, true, true, true, true, true, true, true] rfl rfl (by kernel_rfl) (by decide) (fun K hK => ?_)
            refine goesV_ Try.func61 (by kernel_rfl) rfl #[v7, .agg #[.int .i64 (g : Int), .int .i64 ((f - 1 : Nat) : Int), .int .i64 (t : Int)], .pointer (some ⟨b7, 0, none⟩), .pointer (some ⟨b9, 0, none⟩)] (by rfl) rfl rfl (by rfl) (by (try simp only [List.map_toArray, List.map_cons, List.map_nil]); first | done | rfl) ?_
            refine (ih t g (f - 1) (pre ++ [70]) (done ++ pts n t g f pre 1) v7 b7 b9 w7 (by omega) (by rw [List.length_append, List.length_singleton]; omega) (by rw [lines_succ, List.length_append, List.length_append] at hdl; have e9 : (linesAt n t g (f - 1) (pre ++ [70])).length = (Fl n t g f pre).length := (by unfold Fl; rw [if_neg hf]); rw [e9]; simp only [pts, List.length_append, List.length_nil]; omega) (fun s hs => hP s (by rw [lines_succ]; unfold Gl Fl Tl; simp only [List.mem_append]; right; left; rw [if_neg hf]; exact hs)) (hE.stay _ _ _ hI hb7) (hB.kt (KT.below hb7)) (Kd.R_lower (by rw [bys_snoc]; exact ho7) (Nat.zero_le _))).mono ?_
            rintro e8 W8 ⟨rfl, hI8, hk8⟩
            refine ⟨_, rfl, ?_⟩
            have hkk := hE.trans _ _ _ (hE.below _ _ hb7) hk8
            have hkt := hE.kt _ _ hkk
            refine hK.out _ _ ?_
            clear hK K
            refine norm_ (a' := ?_) ?_ ?_
            rotate_left
            · show Act.put _ (some 36) _ = _
              simp only [Act.put, List.setIfInBounds_toArray, List.set_cons_zero, List.set_cons_succ, i64_w, i32_w]
              rfl
            refine done_ (by kernel_rfl) ?_
            have hpt : pts n t g f pre (1 + 1) = pts n t g f pre 1 ++ linesAt n t g (f - 1) (pre ++ [70]) := by
              simp only [pts, Fl, if_neg hf, List.nil_append]
            rw [List.append_assoc, ← hpt] at hI8
            go_wp2
            exact ⟨⟨1 + 1, by decide, rfl, hI8, hB.kt hkt, hkt.blk hx (by decide), hkt.row hr, hE.trans _ _ _ hk hkk⟩, by simp [RowKit.intOf]⟩
      · by_cases ht : t = 0
        · have hd1 : decide ((t : Int) > 0) = false := decide_eq_false (by omega)
          have hd2 : decide ((0 : Int) < (t : Int)) = false := decide_eq_false (by omega)
          have hpt : pts n t g f pre (2 + 1) = pts n t g f pre 2 := by simp only [pts, Tl, if_pos ht, List.append_nil]
          rw [← hpt] at hI
          go_wp2
          exact ⟨⟨2 + 1, by decide, rfl, hI, hB, hx, hr, hk⟩, by simp [RowKit.intOf]⟩
        · have hd1 : decide ((t : Int) > 0) = true := decide_eq_true (by omega)
          have hd2 : decide ((0 : Int) < (t : Int)) = true := decide_eq_true (by omega)
          have ec : ((t : Int) - 1) = ((t - 1 : Nat) : Int) := by omega
          go_wp2_with fail
          (try rw [ec])
          have hb4 : Below wr.heap.size wr (wr.alloc (.cells #[.int .i64 (g : Int), .int .i64 (f : Int), .int .i64 ((t - 1 : Nat) : Int)] 40 (0, 0))).drew := below_drew1 (below_alloc (Below.refl _ _) _)
          have hn4 : (wr.alloc (.cells #[.int .i64 (g : Int), .int .i64 (f : Int), .int .i64 ((t - 1 : Nat) : Int)] 40 (0, 0))).drew.heap[wr.heap.size]? = some (.cells #[.int .i64 (g : Int), .int .i64 (f : Int), .int .i64 ((t - 1 : Nat) : Int)] 40 (0, 0)) := blk_drew (blk_new wr _)
          have hB4 := hB.kt (KT.below hb4)
          have hr4 := Kd.R_below hr hb4
          refine start_ (n := 9) (S := fun w' => w'.cell? ⟨b9, 0, none⟩ = some (.func (.func 61) #[] #[.pointer (some ⟨b7, 0, none⟩), .pointer (some ⟨b9, 0, none⟩)]) ∧ w'.cell? ⟨wr.heap.size, 0, none⟩ = some (.int .i64 (g : Int)) ∧ w'.cell? ⟨wr.heap.size, 1, none⟩ = some (.int .i64 (f : Int)) ∧ w'.cell? ⟨wr.heap.size, 2, none⟩ = some (.int .i64 ((t - 1 : Nat) : Int))) (ds := [8]) #[false, false, false, false, false, false, false, false, false] (by kernel_rfl) rfl rfl ⟨(blk_cell hB4.s 0).trans rfl, (blk_cell hn4 0).trans rfl, (blk_cell hn4 1).trans rfl, (blk_cell hn4 2).trans rfl⟩ (fun hHeld => ?_)
          generalize (wr.alloc (.cells #[.int .i64 (g : Int), .int .i64 (f : Int), .int .i64 ((t - 1 : Nat) : Int)] 40 (0, 0))).drew = W4 at *
          refine take_ (i := 0) (N := some 28) (v := ?_) (a' := ?_) #[true, false, false, false, false, false, false, false, false] rfl rfl (by kernel_rfl) (fun _ _ _ h => h) (Or.inl ⟨by rfl, ?_⟩) hHeld ?_ ?_
          rotate_left
          · rintro w' ⟨s0, s1, s2, s3⟩
            go_simp
            with_reducible rfl
          rotate_left
          · simp only [Act.put, List.setIfInBounds_toArray, List.set_cons_zero, List.set_cons_succ, i64_w, i32_w]
            rfl
          refine pure_ (i := 1) (N := some 29) (v := ?_) (a' := ?_) #[true, true, false, false, false, false, false, false, false] rfl rfl (by kernel_rfl) (fun _ _ _ h => h) (Or.inl ⟨by rfl, ?_⟩) ?_ ?_
          rotate_left
          · intro w'
            go_simp
            with_reducible rfl
          rotate_left
          · simp only [Act.put, List.setIfInBounds_toArray, List.set_cons_zero, List.set_cons_succ, i64_w, i32_w]
            rfl
          refine pure_ (i := 3) (N := some 31) (v := ?_) (a' := ?_) #[true, true, false, true, false, false, false, false, false] rfl rfl (by kernel_rfl) (fun _ _ _ h => h) (Or.inl ⟨by rfl, ?_⟩) ?_ ?_
          rotate_left
          · intro w'
            go_simp
            with_reducible rfl
          rotate_left
          · simp only [Act.put, List.setIfInBounds_toArray, List.set_cons_zero, List.set_cons_succ, i64_w, i32_w]
            rfl
          refine pure_ (i := 4) (N := some 32) (v := ?_) (a' := ?_) #[true, true, false, true, true, false, false, false, false] rfl rfl (by kernel_rfl) (fun _ _ _ h => h) (Or.inl ⟨by rfl, ?_⟩) ?_ ?_
          rotate_left
          · intro w'
            go_simp
            with_reducible rfl
          rotate_left
          · simp only [Act.put, List.setIfInBounds_toArray, List.set_cons_zero, List.set_cons_succ, i64_w, i32_w]
            rfl
          refine take_ (i := 7) (N := some 35) (v := ?_) (a' := ?_) #[true, true, false, true, true, false, false, true, false] rfl rfl (by kernel_rfl) (fun _ _ _ h => h) (Or.inl ⟨by rfl, ?_⟩) hHeld ?_ ?_
          rotate_left
          · rintro w' ⟨s0, s1, s2, s3⟩
            go_simp
            with_reducible rfl
          rotate_left
          · simp only [Act.put, List.setIfInBounds_toArray, List.set_cons_zero, List.set_cons_succ, i64_w, i32_w]
            rfl
          refine two_ (i := 2) (j := 5) (Ni := some 30) (Nj := some 33) #[true, true, true, true, true, false, false, true, false] #[true, true, false, true, true, true, false, true, false] rfl rfl rfl rfl (by kernel_rfl) (by decide) (by decide) (fun K hK => ?_) (fun K hK => ?_)
          · -- the copy first
            refine goes_ Try.func62 (by kernel_rfl) rfl #[v] (by rfl) rfl rfl (by (try simp only [List.map_toArray, List.map_cons, List.map_nil]); first | done | rfl) ?_
            refine (clone_any v 0 (bys pre) _ hpl hr4).mono ?_
            rintro e5 W5 ⟨⟨vc, rfl, hrc⟩, hy⟩
            refine ⟨_, rfl, ?_⟩
            have hb5 := below_weaken hb4 hb4.size hy
            have hB5 := hB4.kt (KT.below hy)
            have hn5 := blk_below hn4 hy
            have hw5 := hy.size
            clear hy hr4 hn4 hB4
            refine hK.out _ _ ⟨(blk_cell hB5.s 0).trans rfl, (blk_cell hn5 0).trans rfl, (blk_cell hn5 1).trans rfl, (blk_cell hn5 2).trans rfl⟩ (fun hHeld => ?_)
            clear hK K
            refine norm_ (a' := ?_) ?_ ?_
            rotate_left
            · show Act.put _ (some 30) _ = _
              simp only [Act.put, List.setIfInBounds_toArray, List.set_cons_zero, List.set_cons_succ, i64_w, i32_w]
              rfl
            refine one_ (i := 5) (N := some 33) #[true, true, true, true, true, true, false, true, false] rfl rfl (by kernel_rfl) (by decide) (fun K hK => ?_)
            refine value_ (by rfl) rfl (v := .slice (some ⟨W5.heap.size, 0, none⟩) 1 1) (w1 := W5.alloc (.cells #[.int .u8 84] 5)) ?_ ?_
            · first | (go_simp; done) | (go_simp; rfl)
            have hy6 := below_alloc (Below.refl W5.heap.size W5) (.cells #[.int .u8 84] 5)
            have hb6 := below_weaken hb5 hb5.size hy6
            have hB6 := hB5.kt (KT.below hy6)
            have hn6 := blk_below hn5 hy6
            have hrow := blk_new W5 (.cells #[.int .u8 84] 5 (0, 0))
            replace hrc := Kd.R_lower (Kd.R_below hrc hy6) hb4.size
            clear hb5 hB5 hn5 hy6
            refine hK.out _ _ ⟨(blk_cell hB6.s 0).trans rfl, (blk_cell hn6 0).trans rfl, (blk_cell hn6 1).trans rfl, (blk_cell hn6 2).trans rfl⟩ (fun hHeld => ?_)
            clear hK K
            refine norm_ (a' := ?_) ?_ ?_
            rotate_left
            · show Act.put _ (some 33) _ = _
              simp only [Act.put, List.setIfInBounds_toArray, List.set_cons_zero, List.set_cons_succ, i64_w, i32_w]
              rfl
            refine one_ (i := 6) (N := some 34) #[true, true, true, true, true, true, true, true, false] rfl rfl (by kernel_rfl) (by decide) (fun K hK => ?_)
            refine Kd.R_append_rows_step (Kd.int .u8) (w0 := wr) wr.heap.size (by rfl) (.tmp 30) (.tmp 33) 41 5 (.int .u8 0) 1 rfl Try.underlying41 al_info rfl (by decide) (by omega) vc (bys pre) [84] (some ⟨W5.heap.size, 0, none⟩) 1 1 (fun _ => True) (fun _ => False) (by rfl) (by rfl) hrc (Kd.R_reads' (al_one (base := 0) hrow (Nat.zero_le _))).2.2 (fun _ _ h => h) (fun _ h => h.elim) (fun _ _ => trivial) hb6 hb6.size (by omega) ?_
            intro v7 w7 ho7 hb7 hg7 hat7
            have hn7 := blk_grown hn6 hg7 (Kd.R_ne hrc hn6 (by decide))
            have hB7 := hB.kt (KT.below hb7)
            refine hK.out _ _ ⟨(blk_cell hB7.s 0).trans rfl, (blk_cell hn7 0).trans rfl, (blk_cell hn7 1).trans rfl, (blk_cell hn7 2).trans rfl⟩ (fun hHeld => ?_)
            clear hK K
            refine norm_ (a' := ?_) ?_ ?_
            rotate_left
            · show Act.put _ (some 34) _ = _
              simp only [Act.put, List.setIfInBounds_toArray, List.set_cons_zero, List.set_cons_succ, i64_w, i32_w]
              rfl
            refine last_ (i := 8) (N := some 36) #[true, true, true, true, true, true, true, true, true] rfl rfl (by kernel_rfl) (by decide) (fun K hK => ?_)
            refine goesV_ Try.func61 (by kernel_rfl) rfl #[v7, .agg #[.int .i64 (g : Int), .int .i64 (f : Int), .int .i64 ((t - 1 : Nat) : Int)], .pointer (some ⟨b7, 0, none⟩), .pointer (some ⟨b9, 0, none⟩)] (by rfl) rfl rfl (by rfl) (by (try simp only [List.map_toArray, List.map_cons, List.map_nil]); first | done | rfl) ?_
            refine (ih (t - 1) g f (pre ++ [84]) (done ++ pts n t g f pre 2) v7 b7 b9 w7 (by omega) (by rw [List.length_append, List.length_singleton]; omega) (by rw [lines_succ, List.length_append, List.length_append] at hdl; have e9 : (linesAt n (t - 1) g f (pre ++ [84])).length = (Tl n t g f pre).length := (by unfold Tl; rw [if_neg ht]); rw [e9]; simp only [pts, List.length_append, List.length_nil]; omega) (fun s hs => hP s (by rw [lines_succ]; unfold Gl Fl Tl; simp only [List.mem_append]; right; right; rw [if_neg ht]; exact hs)) (hE.stay _ _ _ hI hb7) (hB.kt (KT.below hb7)) (Kd.R_lower (by rw [bys_snoc]; exact ho7) (Nat.zero_le _))).mono ?_
            rintro e8 W8 ⟨rfl, hI8, hk8⟩
            refine ⟨_, rfl, ?_⟩
            have hkk := hE.trans _ _ _ (hE.below _ _ hb7) hk8
            have hkt := hE.kt _ _ hkk
            refine hK.out _ _ ?_
            clear hK K
            refine norm_ (a' := ?_) ?_ ?_
            rotate_left
            · show Act.put _ (some 36) _ = _
              simp only [Act.put, List.setIfInBounds_toArray, List.set_cons_zero, List.set_cons_succ, i64_w, i32_w]
              rfl
            refine done_ (by kernel_rfl) ?_
            have hpt : pts n t g f pre (2 + 1) = pts n t g f pre 2 ++ linesAt n (t - 1) g f (pre ++ [84]) := by
              simp only [pts, Tl, if_neg ht, List.nil_append]
            rw [List.append_assoc, ← hpt] at hI8
            go_wp2
            exact ⟨⟨2 + 1, by decide, rfl, hI8, hB.kt hkt, hkt.blk hx (by decide), hkt.row hr, hE.trans _ _ _ hk hkk⟩, by simp [RowKit.intOf]⟩
          · -- the new sign first
            refine value_ (by rfl) rfl (v := .slice (some ⟨W4.heap.size, 0, none⟩) 1 1) (w1 := W4.alloc (.cells #[.int .u8 84] 5)) ?_ ?_
            · first | (go_simp; done) | (go_simp; rfl)
            have hy5 := below_alloc (Below.refl W4.heap.size W4) (.cells #[.int .u8 84] 5)
            have hb5 := below_weaken hb4 hb4.size hy5
            have hB5 := hB4.kt (KT.below hy5)
            have hn5 := blk_below hn4 hy5
            have hr5 := Kd.R_below hr4 hy5
            have hrow5 := blk_new W4 (.cells #[.int .u8 84] 5 (0, 0))
            clear hr4 hn4 hB4 hy5
            refine hK.out _ _ ⟨(blk_cell hB5.s 0).trans rfl, (blk_cell hn5 0).trans rfl, (blk_cell hn5 1).trans rfl, (blk_cell hn5 2).trans rfl⟩ (fun hHeld => ?_)
            clear hK K
            refine norm_ (a' := ?_) ?_ ?_
            rotate_left
            · show Act.put _ (some 33) _ = _
              simp only [Act.put, List.setIfInBounds_toArray, List.set_cons_zero, List.set_cons_succ, i64_w, i32_w]
              rfl
            refine one_ (i := 2) (N := some 30) #[true, true, true, true, true, true, false, true, false] rfl rfl (by kernel_rfl) (by decide) (fun K hK => ?_)
            refine goes_ Try.func62 (by kernel_rfl) rfl #[v] (by rfl) rfl rfl (by (try simp only [List.map_toArray, List.map_cons, List.map_nil]); first | done | rfl) ?_
            refine (clone_any v 0 (bys pre) _ hpl hr5).mono ?_
            rintro e5 W6 ⟨⟨vc, rfl, hrc⟩, hy⟩
            refine ⟨_, rfl, ?_⟩
            have hb6 := below_weaken hb5 hb5.size hy
            have hB6 := hB5.kt (KT.below hy)
            have hn6 := blk_below hn5 hy
            have hrow := blk_below hrow5 hy
            replace hrc := Kd.R_lower hrc hb5.size
            clear hb5 hB5 hn5 hy hr5 hrow5
            refine hK.out _ _ ⟨(blk_cell hB6.s 0).trans rfl, (blk_cell hn6 0).trans rfl, (blk_cell hn6 1).trans rfl, (blk_cell hn6 2).trans rfl⟩ (fun hHeld => ?_)
            clear hK K
            refine norm_ (a' := ?_) ?_ ?_
            rotate_left
            · show Act.put _ (some 30) _ = _
              simp only [Act.put, List.setIfInBounds_toArray, List.set_cons_zero, List.set_cons_succ, i64_w, i32_w]
              rfl
            refine one_ (i := 6) (N := some 34) #[true, true, true, true, true, true, true, true, false] rfl rfl (by kernel_rfl) (by decide) (fun K hK => ?_)
            refine Kd.R_append_rows_step (Kd.int .u8) (w0 := wr) wr.heap.size (by rfl) (.tmp 30) (.tmp 33) 41 5 (.int .u8 0) 1 rfl Try.underlying41 al_info rfl (by decide) (by omega) vc (bys pre) [84] (some ⟨W4.heap.size, 0, none⟩) 1 1 (fun _ => True) (fun _ => False) (by rfl) (by rfl) hrc (Kd.R_reads' (al_one (base := 0) hrow (Nat.zero_le _))).2.2 (fun _ _ h => h) (fun _ h => h.elim) (fun _ _ => trivial) hb6 hb6.size (by omega) ?_
            intro v7 w7 ho7 hb7 hg7 hat7
            have hn7 := blk_grown hn6 hg7 (Kd.R_ne hrc hn6 (by decide))
            have hB7 := hB.kt (KT.below hb7)
            refine hK.out _ _ ⟨(blk_cell hB7.s 0).trans rfl, (blk_cell hn7 0).trans rfl, (blk_cell hn7 1).trans rfl, (blk_cell hn7 2).trans rfl⟩ (fun hHeld => ?_)
            clear hK K
            refine norm_ (a' := ?_) ?_ ?_
            rotate_left
            · show Act.put _ (some 34) _ = _
              simp only [Act.put, List.setIfInBounds_toArray, List.set_cons_zero, List.set_cons_succ, i64_w, i32_w]
              rfl
            refine last_ (i := 8) (N := some 36) #[true, true, true, true, true, true, true, true, true] rfl rfl (by kernel_rfl) (by decide) (fun K hK => ?_)
            refine goesV_ Try.func61 (by kernel_rfl) rfl #[v7, .agg #[.int .i64 (g : Int), .int .i64 (f : Int), .int .i64 ((t - 1 : Nat) : Int)], .pointer (some ⟨b7, 0, none⟩), .pointer (some ⟨b9, 0, none⟩)] (by rfl) rfl rfl (by rfl) (by (try simp only [List.map_toArray, List.map_cons, List.map_nil]); first | done | rfl) ?_
            refine (ih (t - 1) g f (pre ++ [84]) (done ++ pts n t g f pre 2) v7 b7 b9 w7 (by omega) (by rw [List.length_append, List.length_singleton]; omega) (by rw [lines_succ, List.length_append, List.length_append] at hdl; have e9 : (linesAt n (t - 1) g f (pre ++ [84])).length = (Tl n t g f pre).length := (by unfold Tl; rw [if_neg ht]); rw [e9]; simp only [pts, List.length_append, List.length_nil]; omega) (fun s hs => hP s (by rw [lines_succ]; unfold Gl Fl Tl; simp only [List.mem_append]; right; right; rw [if_neg ht]; exact hs)) (hE.stay _ _ _ hI hb7) (hB.kt (KT.below hb7)) (Kd.R_lower (by rw [bys_snoc]; exact ho7) (Nat.zero_le _))).mono ?_
            rintro e8 W8 ⟨rfl, hI8, hk8⟩
            refine ⟨_, rfl, ?_⟩
            have hkk := hE.trans _ _ _ (hE.below _ _ hb7) hk8
            have hkt := hE.kt _ _ hkk
            refine hK.out _ _ ?_
            clear hK K
            refine norm_ (a' := ?_) ?_ ?_
            rotate_left
            · show Act.put _ (some 36) _ = _
              simp only [Act.put, List.setIfInBounds_toArray, List.set_cons_zero, List.set_cons_succ, i64_w, i32_w]
              rfl
            refine done_ (by kernel_rfl) ?_
            have hpt : pts n t g f pre (2 + 1) = pts n t g f pre 2 ++ linesAt n (t - 1) g f (pre ++ [84]) := by
              simp only [pts, Tl, if_neg ht, List.nil_append]
            rw [List.append_assoc, ← hpt] at hI8
            go_wp2
            exact ⟨⟨2 + 1, by decide, rfl, hI8, hB.kt hkt, hkt.blk hx (by decide), hkt.row hr, hE.trans _ _ _ hk hkk⟩, by simp [RowKit.intOf]⟩
    · obtain rfl : s = 3 := by omega
      have hdec : decide (((3 : Nat) : Int) < 3) = false := decide_eq_false (by omega)
      have hlin : linesAt (n + 1) t g f pre = pts n t g f pre 3 := by rw [lines_succ]; simp only [pts, List.append_assoc]
      go_wp2
      go_end0
      exact ⟨rfl, by rw [hlin]; exact hI, hk⟩
theorem put_all {ge : FuncId} {lb : Array Value} {I : List ByteArray → World → Prop} {Kp : World → World → Prop} {P : ByteArray → Prop} (hE : Each ge lb I Kp P) : ∀ n, PutSays ge lb I Kp P n
  | 0 => put_zero hE
  | n + 1 => put_succ hE n (put_all hE n)
set_option maxHeartbeats 4000000 in
set_option maxRecDepth 1000000 in
theorem impl_allLines.walk {ge : FuncId} {lb : Array Value} {I : List ByteArray → World → Prop} {Kp : World → World → Prop} {P : ByteArray → Prop} (hE : Each ge lb I Kp P) (t g f : Nat) (done : List ByteArray) (W : World) (hn : t + g + f ≤ 12) (hdl : done.length + (linesAt (t + g + f) t g f []).length ≤ 1000000) (hP : ∀ s ∈ linesAt (t + g + f) t g f [], P s) (hI : I done W) :
    Calls Try.prog 40 #[.int .i64 (t : Int), .int .i64 (g : Int), .int .i64 (f : Int), .func (.func ge) #[] lb] W fun e W' => e = .returned (.tuple #[]) ∧ I (done ++ linesAt (t + g + f) t g f []) W' ∧ Kp W W' := by
  have hmf : ∀ (fn : Fn) (first cap : Array Value) (w : World), (Instr.makeFunc fn first cap).run Try.prog w = .ok (.func fn first cap) w := fun _ _ _ _ => rfl
  have hb1 : Below W.heap.size W ((((W.alloc (.cells #[.func (.func ge) #[] lb] 53 (0, 0)))).alloc (.cells #[.int .i64 (g : Int), .int .i64 (f : Int), .int .i64 (t : Int)] 40 (0, 0))).alloc (.cells #[.func (.func 61) #[] #[.pointer (some ⟨W.heap.size, 0, none⟩), .pointer (some ⟨W.heap.size + 1 + 1, 0, none⟩)]] 67 (0, 0))) := below_alloc (below_alloc (below_alloc (Below.refl _ _) _) _) _
  have he1 := blk_alloc (blk_alloc (blk_new W (.cells #[.func (.func ge) #[] lb] 53 (0, 0))) (.cells #[.int .i64 (g : Int), .int .i64 (f : Int), .int .i64 (t : Int)] 40 (0, 0))) (.cells #[.func (.func 61) #[] #[.pointer (some ⟨W.heap.size, 0, none⟩), .pointer (some ⟨W.heap.size + 1 + 1, 0, none⟩)]] 67 (0, 0))
  have hs1 := blk_new ((W.alloc (.cells #[.func (.func ge) #[] lb] 53 (0, 0))).alloc (.cells #[.int .i64 (g : Int), .int .i64 (f : Int), .int .i64 (t : Int)] 40 (0, 0))) (.cells #[.func (.func 61) #[] #[.pointer (some ⟨W.heap.size, 0, none⟩), .pointer (some ⟨W.heap.size + 1 + 1, 0, none⟩)]] 67 (0, 0))
  rw [World.size_alloc, World.size_alloc] at hs1
  have HC := Aside0.mk (put_all hE (t + g + f) t g f [] done (.slice none 0 0) W.heap.size (W.heap.size + 1 + 1) _ rfl (by simpa using hn) hdl hP (hE.stay _ _ _ hI hb1) ⟨he1, hs1⟩ (Kd.R_nil _ _ _ _ _))
  have HK := Aside0.mk (fun W' h => hE.trans _ _ W' (hE.below _ _ hb1) h)
  clear hb1 he1 hs1 hI hP
  have egp : ∀ (args : Array Value) (w : World), (callFunc 61 args).run Try.prog w = .ok (.enter 61 args) w := enters_of Try.func61 (by kernel_rfl) rfl
  go_enter Try.func40, Try.ntmps40
  go_wp2_with (first | (go_at_fn 61; refine HC.out.mono ?_; rintro e w1 ⟨rfl, hI1, hk1⟩))
  go_end0
  exact ⟨rfl, hI1, HK.out _ hk1⟩
end
def impl_allLines.f (a0 : Int) : Option (Int) := none
theorem impl_allLines.calls : True := trivial


end Go.Proofs.Ytpelhinjoambfaa.XP
