/- Words of this session beside the printer's: a range over an ASCII string, step by step. For all programs, worlds and strings that the theorems' premises let in. -/
import Derived.Lib.OthersKept
import Derived.Lib.MinMaxS
import Derived.Lib.ConvBytes
import Derived.Test.YtpelhinjoambfaaWWords
import Derived.Test.YtpelhinjoambfaaWLast
import Derived.Test.YtpelhinjoambfaaWFour
import Derived.Test.YtpelhinjoambfaaWQPut
import Derived.Test.YtpelhinjoambfaaWKept
import Derived.Test.YtpelhinjoambfaaWMore
namespace Go.Proofs.YtpelhinjoambfaaXW
open Go.RowKit Go.Lib Go.Proofs.YtpelhinjoambfaaW.PrintWords Go.Proofs.YtpelhinjoambfaaW.PrintLast Go.Proofs.YtpelhinjoambfaaW.PrintMore

section
variable {P : Program} {ops : Array Oper} {rest : List Oper} {o : Oper} {a : Act} {Q : Exit → Act → World → Prop}
theorem iter_event {W : World} (hgd : o.guard = none) {N : Tmp} (_hd : o.dst = some N) {s : ByteArray}
    (hrun : (execOp a.eval o).run P W = .ok (.value (.pointer (some ⟨W.heap.size, 0, none⟩))) (W.iter s 0))
    (h : ∀ g, g = W.heap.size → ∀ w1, w1.heap[g]? = some (.stringIter s (0 : Int).toNat) → Below W.heap.size W w1 → wpList P ops Q rest (a.put o.dst (.pointer (some ⟨g, 0, none⟩))) w1) : wpList P ops Q (o :: rest) a W :=
  Kd.event_run hgd hrun (h _ rfl _ (World.iter_heap W s 0) (below_alloc (Below.refl _ _) _))
theorem kept_iterAt (W : World) (g : Nat) (s : ByteArray) (p : Nat) : Kept W (W.iterAt g s p) (fun k => k = g) :=
  ⟨by rw [iterAt_size]; exact Nat.le_refl _, fun i _ hn => iterAt_other W g i s p hn⟩
theorem next_step {W : World} (hgd : o.guard = none) {N : Tmp} (_hd : o.dst = some N) {g : Nat} {s : ByteArray} {p : Int}
    (hb : W.heap[g]? = some (.stringIter s p.toNat)) (h0 : 0 ≤ p) (h1 : p < (s.size : Int)) (ha : bt s p < 128)
    (hrun : ∀ (b : Int), (∀ ty, (Instr.next (.pointer (some ⟨g, 0, none⟩)) true ty).run P W = .ok (.tuple #[.bool true, .int .i64 p, .int .i32 b]) (W.iterAt g s (p + 1).toNat)) →
      (execOp a.eval o).run P W = .ok (.value (.tuple #[.bool true, .int .i64 p, .int .i32 b])) (W.iterAt g s (p + 1).toNat))
    (h : ∀ w1, w1.heap[g]? = some (.stringIter s (p + 1).toNat) → Kept W w1 (fun k => k = g) → (∀ (B : Nat) (w0 : World), Below B w0 W → B ≤ g → Below B w0 w1) →
      wpList P ops Q rest (a.put o.dst (.tuple #[.bool true, .int .i64 p, .int .i32 (bt s p)])) w1) : wpList P ops Q (o :: rest) a W := by
  have hlt : p.toNat < s.size := by omega
  have hbt : ((s[p.toNat]'hlt).toNat : Int) = bt s p := bt_at s p hlt
  have hasc : (s[p.toNat]'hlt).toNat < 128 := by omega
  refine Kd.event_run hgd (hrun (bt s p) fun ty => ?_) (h _ (iterAt_heap W g s _ _ hb) (kept_iterAt W g s _) fun B w0 hB hg => below_iterAt hB hg s _)
  have hr := run_next_ascii_at (P := P) W g s p.toNat ty hb hlt hasc
  rw [hr, hbt, show ((p.toNat : Nat) : Int) = p from Int.toNat_of_nonneg h0, show (p + 1).toNat = p.toNat + 1 from by omega]
theorem next_end {W : World} (hgd : o.guard = none) {N : Tmp} (_hd : o.dst = some N) {g : Nat} {s : ByteArray} {p : Int}
    (hb : W.heap[g]? = some (.stringIter s p.toNat)) (h0 : 0 ≤ p) (h1 : ¬ p < (s.size : Int))
    (hrun : (∀ ty, (Instr.next (.pointer (some ⟨g, 0, none⟩)) true ty).run P W = .ok (.tuple #[.bool false]) W) →
      (execOp a.eval o).run P W = .ok (.value (.tuple #[.bool false])) W)
    (h : wpList P ops Q rest (a.put o.dst (.tuple #[.bool false])) W) : wpList P ops Q (o :: rest) a W :=
  Kd.event_run hgd (hrun fun ty => run_next_end_at (P := P) W g s p.toNat ty hb (by omega)) h
end

theorem run_min2_strs {P : Program} (w : World) (x y : ByteArray) : (Builtin.min2 (.string x) (.string y)).run P w = .ok (.string (Lib.minS x y)) w := by
  have h := Lib.run_min_strs (P := P) w #[] 0 x y
  have e : Builtin.min_ #[] 0 #[.string x, .string y] = (do Builtin.min2 (.string x) (.string y)) := by simp [Builtin.min_]
  rw [e] at h
  exact h
theorem run_int_string {P : Program} (w : World) (src dst : TypeId) (k : IntKind) (n : Int) (hs : P.underlying src = some (.int k)) (hd : P.underlying dst = some .string) :
    (convert src dst (.int k n)).run P w = .ok (.string (Utf8.encode n)) w := by
  simp [convert, run_underlying hs, run_underlying hd, Conv.intToString, Result.andThen]

section
variable {α : Type} {d : Kd α} {e base g p : Nat} {ok : Nat → Prop} {W w1 : World} {v : Value} {xs : List α} {s : ByteArray}
theorem iter_none {k : Nat} {q : Nat → Prop} (hb : W.heap[g]? = some (.stringIter s p)) (ho : ∃ t, q t ∧ ∃ cells, W.heap[k]? = some (.cells cells t (0, 0))) : ¬ k = g := by
  rintro rfl
  obtain ⟨t, _, cells, hc⟩ := ho
  rw [hb] at hc
  cases hc
theorem R_iter (h : d.R e W base ok v xs) (hb : W.heap[g]? = some (.stringIter s p)) (hk : Kept W w1 (fun k => k = g)) : d.R e w1 base ok v xs :=
  Kd.R_mono (Kd.R_kept (Kd.R_bound h) hk (fun _ ho => iter_none hb ho.2.2.2)) (fun _ h => h.1)
theorem S_iter (h : Kd.S d e W base ok v xs) (hb : W.heap[g]? = some (.stringIter s p)) (hk : Kept W w1 (fun k => k = g)) : Kd.S d e w1 base ok v xs :=
  Kd.S_mono (Kd.S_kept (Kd.S_bound h) hk (fun _ ho => iter_none hb ho.2.2.2)) (fun _ h => h.1)
theorem Q_iter (h : d.Q e W base ok v xs) (hb : W.heap[g]? = some (.stringIter s p)) (hk : Kept W w1 (fun k => k = g)) : d.Q e w1 base ok v xs :=
  Kd.Q_mono (Kd.Q_kept (Kd.Q_bound h) hk (fun _ ho => iter_none hb ho.2.2.2)) (fun _ h => h.1)
theorem V_iter (h : Kd.V d e W base ok v xs) (_hb : W.heap[g]? = some (.stringIter s p)) (hk : Kept W w1 (fun k => k = g)) (hok : ∀ k, ok k → ¬ k = g := by (intro k hk e; rw [e] at hk; simp only [ne_eq, not_true_eq_false, and_false, false_and] at hk)) : Kd.V d e w1 base ok v xs := Kd.V_kept h hk hok
theorem R_neI (h : d.R e W base ok v xs) (hb : W.heap[g]? = some (.stringIter s p)) : some g ≠ v.ownBlock := by
  intro he
  exact iter_none hb ((Kd.R_bound h).1 g he.symm).2.2.2 rfl
theorem S_neI (h : Kd.S d e W base ok v xs) (hb : W.heap[g]? = some (.stringIter s p)) : some g ≠ v.ownBlock := by
  intro he
  obtain ⟨f, h⟩ := h
  exact iter_none hb ((Kd.R_bound h).1 g he.symm).2.2.2 rfl
theorem Q_neI (h : d.Q e W base ok v xs) (hb : W.heap[g]? = some (.stringIter s p)) : some g ≠ v.ownBlock := by
  intro he
  exact iter_none hb ((Kd.Q_bound h).1 g he.symm).2.2.2 rfl
theorem blk_farO {w : World} {g : Nat} {o : Obj} (h : w.heap[g]? = some o) {q : Addr} (hp : g ≠ q.block) (u : Value) : (w.setCell q u).heap[g]? = some o := (Below.heap_setCell w q u g hp).trans h
end

/-! Bytes of a string as a row (a conversion's row), written and read back. -/
theorem bytesWorld_frozen (w : World) (e : TypeId) (s : ByteArray) (j : Nat) (hj : j < s.size) : (bytesWorld w e s).frozen? ⟨w.heap.size, j, none⟩ = false := by
  have h : s.size ≤ (bytesCells w e s).size := by simp [bytesCells]
  simp only [World.frozen?, bytesWorld_at_new]
  simp
  omega
theorem bytesWorld_below (w : World) (e : TypeId) (s : ByteArray) : Below w.heap.size w (bytesWorld w e s) :=
  ⟨rfl, rfl, rfl, by rw [bytesWorld_size]; omega, fun k hk => bytesWorld_at_old w e s k hk⟩
/-- the first n cells of block g are the bytes of l -/
def RowIs (w : World) (g n : Nat) (l : List UInt8) : Prop := ∀ j, j < n → w.cell? ⟨g, j, none⟩ = some (.int .u8 (l.getD j 0).toNat)
theorem cell_ne {w : World} {g i j : Nat} {v : Value} (h : i ≠ j) : (w.setCell ⟨g, i, none⟩ v).cell? ⟨g, j, none⟩ = w.cell? ⟨g, j, none⟩ :=
  World.cell?_setCell_other _ _ _ _ (by intro e; cases e; exact h rfl)
theorem RowIs.set {w : World} {g n : Nat} {l : List UInt8} (h : RowIs w g n l) (hl : l.length = n) (i : Nat) (hi : i < n) (x : UInt8) : RowIs (w.setCell ⟨g, i, none⟩ (.int .u8 x.toNat)) g n (l.set i x) := by
  intro j hj
  by_cases e : i = j
  · subst e
    rw [World.cell?_setCell_same _ _ _ (h i hi), List.getD_eq_getElem?_getD, List.getElem?_set_self (by omega)]
    rfl
  · rw [cell_ne e, h j hj, List.getD_eq_getElem?_getD, List.getD_eq_getElem?_getD, List.getElem?_set_ne e]
theorem RowIs.drew {w : World} {g n : Nat} {l : List UInt8} (h : RowIs w g n l) : RowIs w.drew g n l := h
theorem RowIs.reads {w : World} {g n : Nat} {l : List UInt8} (h : RowIs w g n l) (hl : l.length = n) (hn : n ≤ 9223372036854775807) : ReadsInt w .u8 (some ⟨g, 0, none⟩) n (l.map fun b => (b.toNat : Int)) := by
  refine ⟨by rw [List.length_map, hl], hn, fun _ => ⟨_, rfl, fun j hj => ?_⟩⟩
  rw [add_plain, h j hj, List.getD_eq_getElem?_getD, List.getD_eq_getElem?_getD, List.getElem?_map, List.getElem?_eq_getElem (by omega)]
  rfl
theorem nums_str (l : List UInt8) : strOfNums (l.map fun b => (b.toNat : Int)) = ⟨l.toArray⟩ := by
  unfold strOfNums
  rw [List.map_map]
  congr 2
  conv => rhs; rw [← List.map_id l]
  apply List.map_congr_left
  intro b _
  simp
theorem wrapEq (x : Int) : IntKind.i64.wrap x = wrap64 x := by
  rw [IntKind.wrap_i64]
  unfold wrap64
  omega
theorem calls_args64 {P : Program} {f : FuncId} {args args' : Array Value} {w : World} {Q : Ending → World → Prop} (h : args = args') (h2 : Calls P f args' w Q) : Calls P f args w Q := h ▸ h2
end Go.Proofs.YtpelhinjoambfaaXW
