/- The Lean functions that the Go functions of this seat compute, each with the proof that the Go function computes it, for every input (laws: FnExactBothWays). Conditions: none beyond those that each theorem names. Written by a program of this session over the kit's printer. -/
import Derived.Test.YtjgijaocinpkhaaDoorT2XT0
import Derived.Test.YtjgijaocinpkhaaDoorT2XT1
namespace Go.Proofs.YtjgijaocinpkhaaDoor.XT
open Go.RowKit Go.Proofs.YtjgijaocinpkhaaDoorW.PrintWords Go.Proofs.YtjgijaocinpkhaaDoorW.PrintLast Go.Proofs.YtjgijaocinpkhaaDoorW.PrintMore
attribute [local go_sem] max2_int min2_int max_two min_two max_three min_three max_four min_four   -- for this text's walks alone
attribute [local go_sem] Lib.run_min_strs Go.Proofs.YtjgijaocinpkhaaDoorXW.run_min2_strs Go.Proofs.YtjgijaocinpkhaaDoorXW.run_int_string
set_option linter.unusedVariables false
set_option linter.unusedSimpArgs false

/-! ### impl_pathsFrom: function 52 (given) -/
section
open Go Go.RowKit Go.Lib Go.Proofs.YtjgijaocinpkhaaDoorW.PrintWords Go.Proofs.YtjgijaocinpkhaaDoorW.PrintLast Go.Proofs.YtjgijaocinpkhaaDoor.Pm Go.Proofs.YtjgijaocinpkhaaDoor.Ex
abbrev PEnt := Bfs.Ent ByteArray S83
/-- the moves of a text, each behind the other: what is new is set down -/
def visitO (i d : Nat) (x : ByteArray) : List S83 → List PEnt → Option (List PEnt)
  | [], E => some E
  | m :: r, E => (impl_made.f x m.f0 m.f1).bind fun y => if y.size ≤ 1000 then (if inN y (Bfs.nodes E) = true then visitO i d x r E else if E.length < 1000000 ∧ d < 1000000 then visitO i d x r (E ++ [⟨y, (i : Int), m, d + 1⟩]) else none) else none
/-- all texts that are reached, in the order in which they are found -/
def pathsO (M : ByteArray → Option (List S83)) : Nat → Nat → List PEnt → Option (List PEnt)
  | 0, _, _ => none
  | k + 1, i, E => match E[i]? with
    | none => some E
    | some e => (M e.node).bind fun ms => if ms.length ≤ 1000000 then ((visitO i e.dep e.node ms E).bind fun E' => pathsO M k (i + 1) E') else none
def T_ : Nat → Prop := fun _ => True
/-- a block that is none of four rows -/
structure Off (w : World) (u0 u2 u3 u4 : Value) (g : Nat) : Prop where
  lt : g < w.heap.size
  o0 : some g ≠ u0.ownBlock
  o2 : some g ≠ u2.ownBlock
  o3 : some g ≠ u3.ownBlock
  o4 : some g ≠ u4.ownBlock
theorem Off.up {w w1 : World} {u0 u2 u3 u4 : Value} {g : Nat} (h : Off w u0 u2 u3 u4 g) (hs : w.heap.size ≤ w1.heap.size) : Off w1 u0 u2 u3 u4 g := ⟨Nat.lt_of_lt_of_le h.lt hs, h.o0, h.o2, h.o3, h.o4⟩
theorem off_one {W : World} {u u' : Value} {g : Nat} (hl : g < W.heap.size) (h : some g ≠ u.ownBlock) (hat : u'.ownBlock = u.ownBlock ∨ ∃ b, u'.ownBlock = some b ∧ W.heap.size ≤ b) : some g ≠ u'.ownBlock := by
  rcases hat with e | ⟨b, e, hb⟩
  · rw [e]; exact h
  · rw [e]; intro e; cases e; omega
theorem R_one {α : Type} (d : Kd α) {e base g : Nat} {w : World} {x : α} {cs : List Value} (hb : w.heap[g]? = some (.cells cs.toArray e (0, 0))) (hle : base ≤ g) (hM : ∀ ok, d.M w base ok x cs) : d.R e w base T_ (.slice (some ⟨g, 0, none⟩) 1 1) [x] := by
  have hl : cs.length = d.sz := d.K_len (d.K_of_M (hM T_))
  refine ⟨fun _ _ => trivial, cs, ⟨by rw [List.length_singleton, Nat.one_mul, hl], .inr ⟨g, 1, cs.toArray, rfl, hle, hb, Nat.le_refl _, by decide, by simp [hl], ?_⟩⟩, ?_⟩
  · show cs.take (1 * d.sz) = cs
    rw [Nat.one_mul, ← hl, List.take_length]
  · have := (Reps.none (d.M w base fun k => T_ k ∧ some k ≠ (Value.slice (some ⟨g, 0, none⟩) 1 1).ownBlock) d.sz).snoc (hM _) hl
    simpa using this
theorem R_stay {α : Type} {d : Kd α} {e base : Nat} {w w1 : World} {v : Value} {xs : List α} (hd : ∀ {ok1 ok2 : Nat → Prop} {x : α} {cs : List Value}, d.M w base ok1 x cs → d.M w base ok2 x cs) (h : d.R e w base T_ v xs) (hm : ∀ k, v.ownBlock = some k → w1.heap[k]? = w.heap[k]?) : d.R e w1 base T_ v xs :=
  Kd.R_mono (Kd.R_move (Kd.R_flat (ok' := fun k => v.ownBlock = some k) hd h (fun _ hk _ => hk)) hm) (fun _ _ => trivial)
theorem R_lt {α : Type} {d : Kd α} {e base : Nat} {ok : Nat → Prop} {w : World} {v : Value} {xs : List α} (h : d.R e w base ok v xs) : ∀ k, v.ownBlock = some k → k < w.heap.size := fun k hk => by
  obtain ⟨inner, ho⟩ := Kd.R_own h
  exact own_lt ho k hk
theorem R_grow {α : Type} {d : Kd α} {e base : Nat} {w w1 : World} {v : Value} {xs : List α} {row : Option Nat} (hd : ∀ {ok1 ok2 : Nat → Prop} {x : α} {cs : List Value}, d.M w base ok1 x cs → d.M w base ok2 x cs) (h : d.R e w base T_ v xs) (hg : w.grownBy w1 row) (hne : ∀ k, v.ownBlock = some k → some k ≠ row) : d.R e w1 base T_ v xs :=
  R_stay hd h (fun k hk => hg.block k (R_lt h k hk) (hne k hk))
theorem cell_grow {w w1 : World} {row : Option Nat} (hg : w.grownBy w1 row) {p : Addr} {v : Value} (h : w.cell? p = some v) (hne : some p.block ≠ row) : w1.cell? p = some v := by
  have := hg.block p.block (World.block_lt_of_cell? w _ h) hne
  unfold World.cell? at h ⊢
  rw [this]
  exact h
theorem flat_s {w : World} {base : Nat} {ok1 ok2 : Nat → Prop} {x : ByteArray} {cs : List Value} (h : Kd.string.M w base ok1 x cs) : Kd.string.M w base ok2 x cs := h
theorem flat_i {w : World} {base : Nat} {ok1 ok2 : Nat → Prop} {x : Int} {cs : List Value} (h : (Kd.int .i64).M w base ok1 x cs) : (Kd.int .i64).M w base ok2 x cs := h
theorem flat_m {w : World} {base : Nat} {ok1 ok2 : Nat → Prop} {x : S83} {cs : List Value} (h : k83.M w base ok1 x cs) : k83.M w base ok2 x cs := by
  obtain rfl := k83_openM h
  exact k83_mkM w base ok2 x
theorem R_form {α : Type} {d : Kd α} {e base : Nat} {ok : Nat → Prop} {w : World} {v : Value} {xs : List α} (h : d.R e w base ok v xs) (hn : 0 < xs.length) : ∃ g cap, v = .slice (some ⟨g, 0, none⟩) xs.length cap := by
  obtain ⟨inner, ho⟩ := Kd.R_own h
  rcases ho.2 with ⟨_, h0⟩ | ⟨g, cap, cur, rfl, _⟩
  · omega
  · exact ⟨g, cap, rfl⟩
theorem R_any {α : Type} {d : Kd α} {e base : Nat} {ok : Nat → Prop} {w : World} {v : Value} {xs : List α} (h : d.R e w base ok v xs) : ∃ A n c, v = .slice A n c := by
  obtain ⟨A, c, e'⟩ := Kd.R_slice h
  exact ⟨A, _, c, e'⟩
theorem nodes_len (E : List PEnt) : (Bfs.nodes E).length = E.length := List.length_map _
theorem nodes_rd {E : List PEnt} {i : Nat} {e : PEnt} (h : E[i]? = some e) : rdOf ByteArray.empty (Bfs.nodes E) (i : Int) = e.node := by
  unfold rdOf Bfs.nodes
  rw [Int.toNat_natCast, List.getD_eq_getElem?_getD, List.getElem?_map, h]
  rfl
theorem deps_rd {E : List PEnt} {i : Nat} {e : PEnt} (h : E[i]? = some e) : rdOf 0 (E.map fun e => (e.dep : Int)) (i : Int) = (e.dep : Int) := by
  unfold rdOf
  rw [Int.toNat_natCast, List.getD_eq_getElem?_getD, List.getElem?_map, h]
  rfl
def zP : Array Value := #[.slice none 0 0, .map none, .slice none 0 0, .slice none 0 0, .slice none 0 0]
/-- the search's memory: the struct, its map, its four rows -/
structure Pw (w0 w : World) (bp bm : Nat) (v0 v2 v3 v4 : Value) (N : List ByteArray) (E : List PEnt) : Prop where
  B : Below w0.heap.size w0 w
  res : w.heap[w0.heap.size]? = some (.cells zP 67 (0, 0))
  p : w.heap[bp]? = some (.cells #[v0, .map (some bm), v2, v3, v4] 67 (0, 0))
  lt : w0.heap.size < bp
  lm : w0.heap.size < bm
  m : MapIs Tryd.prog 9 3 w bm N
  r0 : Kd.R Kd.string 9 w w0.heap.size T_ v0 (Bfs.nodes E)
  r2 : Kd.R (Kd.int .i64) 3 w w0.heap.size T_ v2 (E.map (·.par))
  r3 : Kd.R k83 83 w w0.heap.size T_ v3 (E.map (·.mov))
  r4 : Kd.R (Kd.int .i64) 3 w w0.heap.size T_ v4 (E.map fun e => (e.dep : Int))
  ne : v2.ownBlock ≠ v4.ownBlock
theorem Pw.up {w0 w w1 : World} {bp bm : Nat} {v0 v2 v3 v4 : Value} {N : List ByteArray} {E : List PEnt} (h : Pw w0 w bp bm v0 v2 v3 v4 N E) (hb : Below w.heap.size w w1) : Pw w0 w1 bp bm v0 v2 v3 v4 N E :=
  ⟨below_step h.B hb, blk_below h.res hb, blk_below h.p hb, h.lt, h.lm, h.m.below hb, Kd.R_below h.r0 hb, Kd.R_below h.r2 hb, Kd.R_below h.r3 hb, Kd.R_below h.r4 hb, h.ne⟩
theorem sep_one {W : World} {u u' v : Value} (hl : ∀ k, v.ownBlock = some k → k < W.heap.size) (h : v.ownBlock ≠ u.ownBlock) (hat : u'.ownBlock = u.ownBlock ∨ ∃ b, u'.ownBlock = some b ∧ W.heap.size ≤ b) : v.ownBlock ≠ u'.ownBlock := by
  rcases hat with e | ⟨b, e, hb⟩
  · rw [e]; exact h
  · rw [e]
    intro e'
    have := hl b e'
    omega
theorem sep_one' {W : World} {u u' v : Value} (hl : ∀ k, v.ownBlock = some k → k < W.heap.size) (h : u.ownBlock ≠ v.ownBlock) (hat : u'.ownBlock = u.ownBlock ∨ ∃ b, u'.ownBlock = some b ∧ W.heap.size ≤ b) : u'.ownBlock ≠ v.ownBlock := (sep_one hl h.symm hat).symm
/-- the region that sets down what is new: what holds between two of its operations -/
structure Rg (w0 : World) (bp bm bx : Nat) (v0 v2 v3 v4 vms : Value) (N : List ByteArray) (E : List PEnt) (ms : List S83) (y : ByteArray) (i : Nat) (f t : Int) (d : Nat) (b1 b2 b3 b4 : Bool) (k : Nat) (x65 x66 x70 x71 x75 x76 x85 x86 u0 u2 u3 u4 : Value) (w : World) : Prop where
  B : Below w0.heap.size w0 w
  res : w.heap[w0.heap.size]? = some (.cells zP 67 (0, 0))
  p : w.heap[bp]? = some (.cells #[v0, .map (some bm), v2, v3, v4] 67 (0, 0))
  lt : w0.heap.size < bp
  lm : w0.heap.size < bm
  m : MapIs Tryd.prog 9 3 w bm N
  bx_ : w.heap[bx]? = some (.cells #[.int .i64 f, .int .i64 t] 83 (0, 0))
  ms_ : Kd.R k83 83 w w0.heap.size T_ vms ms
  om : ∀ g, vms.ownBlock = some g → Off w u0 u2 u3 u4 g
  o1 : Off w u0 u2 u3 u4 w0.heap.size
  o2 : Off w u0 u2 u3 u4 bp
  o3 : Off w u0 u2 u3 u4 bm
  o4 : Off w u0 u2 u3 u4 bx
  s01 : u0.ownBlock ≠ u2.ownBlock
  s02 : u0.ownBlock ≠ u3.ownBlock
  s03 : u0.ownBlock ≠ u4.ownBlock
  s12 : u2.ownBlock ≠ u3.ownBlock
  s13 : u2.ownBlock ≠ u4.ownBlock
  s23 : u3.ownBlock ≠ u4.ownBlock
  e0 : u0 = if 1 ≤ k then x66 else v0
  r0 : Kd.R Kd.string 9 w w0.heap.size T_ u0 ((Bfs.nodes E) ++ if 1 ≤ k then [y] else [])
  c0 : b1 = true → k < 1 → ∃ g, x65 = .slice (some ⟨g, 0, none⟩) 1 1 ∧ w.heap[g]? = some (.cells #[.string y] 9 (0, 0)) ∧ Off w u0 u2 u3 u4 g
  e1 : u2 = if 2 ≤ k then x71 else v2
  r1 : Kd.R (Kd.int .i64) 3 w w0.heap.size T_ u2 ((E.map (·.par)) ++ if 2 ≤ k then [(i : Int)] else [])
  c1 : b2 = true → k < 2 → ∃ g, x70 = .slice (some ⟨g, 0, none⟩) 1 1 ∧ w.heap[g]? = some (.cells #[.int .i64 (i : Int)] 3 (0, 0)) ∧ Off w u0 u2 u3 u4 g
  e2 : u3 = if 3 ≤ k then x76 else v3
  r2 : Kd.R k83 83 w w0.heap.size T_ u3 ((E.map (·.mov)) ++ if 3 ≤ k then [⟨f, t⟩] else [])
  c2 : b3 = true → k < 3 → ∃ g, x75 = .slice (some ⟨g, 0, none⟩) 1 1 ∧ w.heap[g]? = some (.cells #[.int .i64 f, .int .i64 t] 83 (0, 0)) ∧ Off w u0 u2 u3 u4 g
  e3 : u4 = if 4 ≤ k then x86 else v4
  r3 : Kd.R (Kd.int .i64) 3 w w0.heap.size T_ u4 ((E.map fun e => (e.dep : Int)) ++ if 4 ≤ k then [(d : Int)] else [])
  c3 : b4 = true → k < 4 → ∃ g, x85 = .slice (some ⟨g, 0, none⟩) 1 1 ∧ w.heap[g]? = some (.cells #[.int .i64 (d : Int)] 3 (0, 0)) ∧ Off w u0 u2 u3 u4 g
theorem Rg.build1 {w0 : World} {bp bm bx : Nat} {v0 v2 v3 v4 vms : Value} {N : List ByteArray} {E : List PEnt} {ms : List S83} {y : ByteArray} {i : Nat} {f t : Int} {d : Nat} {b2 b3 b4 : Bool} {k : Nat} {x65 x66 x70 x71 x75 x76 x85 x86 u0 u2 u3 u4 : Value} {w : World} (h : Rg w0 bp bm bx v0 v2 v3 v4 vms N E ms y i f t d false b2 b3 b4 k x65 x66 x70 x71 x75 x76 x85 x86 u0 u2 u3 u4 w) : Rg w0 bp bm bx v0 v2 v3 v4 vms N E ms y i f t d true b2 b3 b4 k (.slice (some ⟨w.heap.size, 0, none⟩) 1 1) x66 x70 x71 x75 x76 x85 x86 u0 u2 u3 u4 (w.alloc (.cells #[.string y] 9 (0, 0))) := by
  have hb := below_alloc (Below.refl w.heap.size w) (.cells #[.string y] 9 (0, 0))
  have hs : w.heap.size ≤ (w.alloc (.cells #[.string y] 9 (0, 0))).heap.size := hb.size
  exact ⟨below_alloc h.B _, blk_alloc h.res _, blk_alloc h.p _, h.lt, h.lm, h.m.alloc _, blk_alloc h.bx_ _, Kd.R_below h.ms_ hb, fun g hg => (h.om g hg).up hs, h.o1.up hs, h.o2.up hs, h.o3.up hs, h.o4.up hs, h.s01, h.s02, h.s03, h.s12, h.s13, h.s23, h.e0, Kd.R_below h.r0 hb, fun _ _ => ⟨w.heap.size, rfl, blk_new w _, ⟨by simp, fun e => by have := R_lt h.r0 _ e.symm; omega, fun e => by have := R_lt h.r1 _ e.symm; omega, fun e => by have := R_lt h.r2 _ e.symm; omega, fun e => by have := R_lt h.r3 _ e.symm; omega⟩⟩, h.e1, Kd.R_below h.r1 hb, fun hb' hk => by obtain ⟨g, hx, hc, ho⟩ := h.c1 hb' hk; exact ⟨g, hx, blk_alloc hc _, ho.up hs⟩, h.e2, Kd.R_below h.r2 hb, fun hb' hk => by obtain ⟨g, hx, hc, ho⟩ := h.c2 hb' hk; exact ⟨g, hx, blk_alloc hc _, ho.up hs⟩, h.e3, Kd.R_below h.r3 hb, fun hb' hk => by obtain ⟨g, hx, hc, ho⟩ := h.c3 hb' hk; exact ⟨g, hx, blk_alloc hc _, ho.up hs⟩⟩
theorem Rg.app1 {w0 : World} {bp bm bx : Nat} {v0 v2 v3 v4 vms : Value} {N : List ByteArray} {E : List PEnt} {ms : List S83} {y : ByteArray} {i : Nat} {f t : Int} {d : Nat} {b1 b2 b3 b4 : Bool} {x65 x66 x70 x71 x75 x76 x85 x86 u0 u2 u3 u4 u' : Value} {w w1 : World} (h : Rg w0 bp bm bx v0 v2 v3 v4 vms N E ms y i f t d b1 b2 b3 b4 0 x65 x66 x70 x71 x75 x76 x85 x86 u0 u2 u3 u4 w) (hr : Kd.R Kd.string 9 w1 w0.heap.size T_ u' ((Bfs.nodes E) ++ [y])) (hB : Below w0.heap.size w0 w1) (hg : w.grownBy w1 u0.ownBlock) (hat : u'.ownBlock = u0.ownBlock ∨ ∃ b, u'.ownBlock = some b ∧ w.heap.size ≤ b) : Rg w0 bp bm bx v0 v2 v3 v4 vms N E ms y i f t d b1 b2 b3 b4 1 x65 u' x70 x71 x75 x76 x85 x86 u' u2 u3 u4 w1 := by
  have hs : w.heap.size ≤ w1.heap.size := hg.size
  have up : ∀ g, Off w u0 u2 u3 u4 g → Off w1 u' u2 u3 u4 g := fun (g : Nat) (ho : Off w u0 u2 u3 u4 g) => (⟨Nat.lt_of_lt_of_le ho.lt hs, off_one ho.lt ho.o0 hat, ho.o2, ho.o3, ho.o4⟩ : Off w1 u' u2 u3 u4 g)
  exact ⟨hB, blk_grown h.res hg h.o1.o0, blk_grown h.p hg h.o2.o0, h.lt, h.lm, h.m.kept hg h.o3.o0, blk_grown h.bx_ hg h.o4.o0, R_grow flat_m h.ms_ hg (fun k hk => (h.om k hk).o0), fun g hg' => up g (h.om g hg'), up _ h.o1, up _ h.o2, up _ h.o3, up _ h.o4, sep_one' (R_lt h.r1) h.s01 hat, sep_one' (R_lt h.r2) h.s02 hat, sep_one' (R_lt h.r3) h.s03 hat, h.s12, h.s13, h.s23, (if_pos (by decide)).symm, by rw [if_pos (by decide)]; exact hr, fun _ hk => absurd hk (by decide), by have := h.e1; simpa using this, by have := R_grow flat_i h.r1 hg (fun k hk e => h.s01 (by rw [hk, ← e])); simpa using this, fun hb' hk => by obtain ⟨g, hx, hc, ho⟩ := h.c1 hb' (by omega); exact ⟨g, hx, blk_grown hc hg ho.o0, up g ho⟩, by have := h.e2; simpa using this, by have := R_grow flat_m h.r2 hg (fun k hk e => h.s02 (by rw [hk, ← e])); simpa using this, fun hb' hk => by obtain ⟨g, hx, hc, ho⟩ := h.c2 hb' (by omega); exact ⟨g, hx, blk_grown hc hg ho.o0, up g ho⟩, by have := h.e3; simpa using this, by have := R_grow flat_i h.r3 hg (fun k hk e => h.s03 (by rw [hk, ← e])); simpa using this, fun hb' hk => by obtain ⟨g, hx, hc, ho⟩ := h.c3 hb' (by omega); exact ⟨g, hx, blk_grown hc hg ho.o0, up g ho⟩⟩
theorem Rg.build2 {w0 : World} {bp bm bx : Nat} {v0 v2 v3 v4 vms : Value} {N : List ByteArray} {E : List PEnt} {ms : List S83} {y : ByteArray} {i : Nat} {f t : Int} {d : Nat} {b1 b3 b4 : Bool} {k : Nat} {x65 x66 x70 x71 x75 x76 x85 x86 u0 u2 u3 u4 : Value} {w : World} (h : Rg w0 bp bm bx v0 v2 v3 v4 vms N E ms y i f t d b1 false b3 b4 k x65 x66 x70 x71 x75 x76 x85 x86 u0 u2 u3 u4 w) : Rg w0 bp bm bx v0 v2 v3 v4 vms N E ms y i f t d b1 true b3 b4 k x65 x66 (.slice (some ⟨w.heap.size, 0, none⟩) 1 1) x71 x75 x76 x85 x86 u0 u2 u3 u4 (w.alloc (.cells #[.int .i64 (i : Int)] 3 (0, 0))) := by
  have hb := below_alloc (Below.refl w.heap.size w) (.cells #[.int .i64 (i : Int)] 3 (0, 0))
  have hs : w.heap.size ≤ (w.alloc (.cells #[.int .i64 (i : Int)] 3 (0, 0))).heap.size := hb.size
  exact ⟨below_alloc h.B _, blk_alloc h.res _, blk_alloc h.p _, h.lt, h.lm, h.m.alloc _, blk_alloc h.bx_ _, Kd.R_below h.ms_ hb, fun g hg => (h.om g hg).up hs, h.o1.up hs, h.o2.up hs, h.o3.up hs, h.o4.up hs, h.s01, h.s02, h.s03, h.s12, h.s13, h.s23, h.e0, Kd.R_below h.r0 hb, fun hb' hk => by obtain ⟨g, hx, hc, ho⟩ := h.c0 hb' hk; exact ⟨g, hx, blk_alloc hc _, ho.up hs⟩, h.e1, Kd.R_below h.r1 hb, fun _ _ => ⟨w.heap.size, rfl, blk_new w _, ⟨by simp, fun e => by have := R_lt h.r0 _ e.symm; omega, fun e => by have := R_lt h.r1 _ e.symm; omega, fun e => by have := R_lt h.r2 _ e.symm; omega, fun e => by have := R_lt h.r3 _ e.symm; omega⟩⟩, h.e2, Kd.R_below h.r2 hb, fun hb' hk => by obtain ⟨g, hx, hc, ho⟩ := h.c2 hb' hk; exact ⟨g, hx, blk_alloc hc _, ho.up hs⟩, h.e3, Kd.R_below h.r3 hb, fun hb' hk => by obtain ⟨g, hx, hc, ho⟩ := h.c3 hb' hk; exact ⟨g, hx, blk_alloc hc _, ho.up hs⟩⟩
theorem Rg.app2 {w0 : World} {bp bm bx : Nat} {v0 v2 v3 v4 vms : Value} {N : List ByteArray} {E : List PEnt} {ms : List S83} {y : ByteArray} {i : Nat} {f t : Int} {d : Nat} {b1 b2 b3 b4 : Bool} {x65 x66 x70 x71 x75 x76 x85 x86 u0 u2 u3 u4 u' : Value} {w w1 : World} (h : Rg w0 bp bm bx v0 v2 v3 v4 vms N E ms y i f t d b1 b2 b3 b4 1 x65 x66 x70 x71 x75 x76 x85 x86 u0 u2 u3 u4 w) (hr : Kd.R (Kd.int .i64) 3 w1 w0.heap.size T_ u' ((E.map (·.par)) ++ [(i : Int)])) (hB : Below w0.heap.size w0 w1) (hg : w.grownBy w1 u2.ownBlock) (hat : u'.ownBlock = u2.ownBlock ∨ ∃ b, u'.ownBlock = some b ∧ w.heap.size ≤ b) : Rg w0 bp bm bx v0 v2 v3 v4 vms N E ms y i f t d b1 b2 b3 b4 2 x65 x66 x70 u' x75 x76 x85 x86 u0 u' u3 u4 w1 := by
  have hs : w.heap.size ≤ w1.heap.size := hg.size
  have up : ∀ g, Off w u0 u2 u3 u4 g → Off w1 u0 u' u3 u4 g := fun (g : Nat) (ho : Off w u0 u2 u3 u4 g) => (⟨Nat.lt_of_lt_of_le ho.lt hs, ho.o0, off_one ho.lt ho.o2 hat, ho.o3, ho.o4⟩ : Off w1 u0 u' u3 u4 g)
  exact ⟨hB, blk_grown h.res hg h.o1.o2, blk_grown h.p hg h.o2.o2, h.lt, h.lm, h.m.kept hg h.o3.o2, blk_grown h.bx_ hg h.o4.o2, R_grow flat_m h.ms_ hg (fun k hk => (h.om k hk).o2), fun g hg' => up g (h.om g hg'), up _ h.o1, up _ h.o2, up _ h.o3, up _ h.o4, sep_one (R_lt h.r0) h.s01 hat, h.s02, h.s03, sep_one' (R_lt h.r2) h.s12 hat, sep_one' (R_lt h.r3) h.s13 hat, h.s23, by have := h.e0; simpa using this, by have := R_grow flat_s h.r0 hg (fun k hk e => h.s01 (by rw [hk, ← e])); simpa using this, fun hb' hk => by obtain ⟨g, hx, hc, ho⟩ := h.c0 hb' (by omega); exact ⟨g, hx, blk_grown hc hg ho.o2, up g ho⟩, (if_pos (by decide)).symm, by rw [if_pos (by decide)]; exact hr, fun _ hk => absurd hk (by decide), by have := h.e2; simpa using this, by have := R_grow flat_m h.r2 hg (fun k hk e => h.s12 (by rw [hk, ← e])); simpa using this, fun hb' hk => by obtain ⟨g, hx, hc, ho⟩ := h.c2 hb' (by omega); exact ⟨g, hx, blk_grown hc hg ho.o2, up g ho⟩, by have := h.e3; simpa using this, by have := R_grow flat_i h.r3 hg (fun k hk e => h.s13 (by rw [hk, ← e])); simpa using this, fun hb' hk => by obtain ⟨g, hx, hc, ho⟩ := h.c3 hb' (by omega); exact ⟨g, hx, blk_grown hc hg ho.o2, up g ho⟩⟩
theorem Rg.build3 {w0 : World} {bp bm bx : Nat} {v0 v2 v3 v4 vms : Value} {N : List ByteArray} {E : List PEnt} {ms : List S83} {y : ByteArray} {i : Nat} {f t : Int} {d : Nat} {b1 b2 b4 : Bool} {k : Nat} {x65 x66 x70 x71 x75 x76 x85 x86 u0 u2 u3 u4 : Value} {w : World} (h : Rg w0 bp bm bx v0 v2 v3 v4 vms N E ms y i f t d b1 b2 false b4 k x65 x66 x70 x71 x75 x76 x85 x86 u0 u2 u3 u4 w) : Rg w0 bp bm bx v0 v2 v3 v4 vms N E ms y i f t d b1 b2 true b4 k x65 x66 x70 x71 (.slice (some ⟨w.heap.size, 0, none⟩) 1 1) x76 x85 x86 u0 u2 u3 u4 (w.alloc (.cells #[.int .i64 f, .int .i64 t] 83 (0, 0))) := by
  have hb := below_alloc (Below.refl w.heap.size w) (.cells #[.int .i64 f, .int .i64 t] 83 (0, 0))
  have hs : w.heap.size ≤ (w.alloc (.cells #[.int .i64 f, .int .i64 t] 83 (0, 0))).heap.size := hb.size
  exact ⟨below_alloc h.B _, blk_alloc h.res _, blk_alloc h.p _, h.lt, h.lm, h.m.alloc _, blk_alloc h.bx_ _, Kd.R_below h.ms_ hb, fun g hg => (h.om g hg).up hs, h.o1.up hs, h.o2.up hs, h.o3.up hs, h.o4.up hs, h.s01, h.s02, h.s03, h.s12, h.s13, h.s23, h.e0, Kd.R_below h.r0 hb, fun hb' hk => by obtain ⟨g, hx, hc, ho⟩ := h.c0 hb' hk; exact ⟨g, hx, blk_alloc hc _, ho.up hs⟩, h.e1, Kd.R_below h.r1 hb, fun hb' hk => by obtain ⟨g, hx, hc, ho⟩ := h.c1 hb' hk; exact ⟨g, hx, blk_alloc hc _, ho.up hs⟩, h.e2, Kd.R_below h.r2 hb, fun _ _ => ⟨w.heap.size, rfl, blk_new w _, ⟨by simp, fun e => by have := R_lt h.r0 _ e.symm; omega, fun e => by have := R_lt h.r1 _ e.symm; omega, fun e => by have := R_lt h.r2 _ e.symm; omega, fun e => by have := R_lt h.r3 _ e.symm; omega⟩⟩, h.e3, Kd.R_below h.r3 hb, fun hb' hk => by obtain ⟨g, hx, hc, ho⟩ := h.c3 hb' hk; exact ⟨g, hx, blk_alloc hc _, ho.up hs⟩⟩
theorem Rg.app3 {w0 : World} {bp bm bx : Nat} {v0 v2 v3 v4 vms : Value} {N : List ByteArray} {E : List PEnt} {ms : List S83} {y : ByteArray} {i : Nat} {f t : Int} {d : Nat} {b1 b2 b3 b4 : Bool} {x65 x66 x70 x71 x75 x76 x85 x86 u0 u2 u3 u4 u' : Value} {w w1 : World} (h : Rg w0 bp bm bx v0 v2 v3 v4 vms N E ms y i f t d b1 b2 b3 b4 2 x65 x66 x70 x71 x75 x76 x85 x86 u0 u2 u3 u4 w) (hr : Kd.R k83 83 w1 w0.heap.size T_ u' ((E.map (·.mov)) ++ [⟨f, t⟩])) (hB : Below w0.heap.size w0 w1) (hg : w.grownBy w1 u3.ownBlock) (hat : u'.ownBlock = u3.ownBlock ∨ ∃ b, u'.ownBlock = some b ∧ w.heap.size ≤ b) : Rg w0 bp bm bx v0 v2 v3 v4 vms N E ms y i f t d b1 b2 b3 b4 3 x65 x66 x70 x71 x75 u' x85 x86 u0 u2 u' u4 w1 := by
  have hs : w.heap.size ≤ w1.heap.size := hg.size
  have up : ∀ g, Off w u0 u2 u3 u4 g → Off w1 u0 u2 u' u4 g := fun (g : Nat) (ho : Off w u0 u2 u3 u4 g) => (⟨Nat.lt_of_lt_of_le ho.lt hs, ho.o0, ho.o2, off_one ho.lt ho.o3 hat, ho.o4⟩ : Off w1 u0 u2 u' u4 g)
  exact ⟨hB, blk_grown h.res hg h.o1.o3, blk_grown h.p hg h.o2.o3, h.lt, h.lm, h.m.kept hg h.o3.o3, blk_grown h.bx_ hg h.o4.o3, R_grow flat_m h.ms_ hg (fun k hk => (h.om k hk).o3), fun g hg' => up g (h.om g hg'), up _ h.o1, up _ h.o2, up _ h.o3, up _ h.o4, h.s01, sep_one (R_lt h.r0) h.s02 hat, h.s03, sep_one (R_lt h.r1) h.s12 hat, h.s13, sep_one' (R_lt h.r3) h.s23 hat, by have := h.e0; simpa using this, by have := R_grow flat_s h.r0 hg (fun k hk e => h.s02 (by rw [hk, ← e])); simpa using this, fun hb' hk => by obtain ⟨g, hx, hc, ho⟩ := h.c0 hb' (by omega); exact ⟨g, hx, blk_grown hc hg ho.o3, up g ho⟩, by have := h.e1; simpa using this, by have := R_grow flat_i h.r1 hg (fun k hk e => h.s12 (by rw [hk, ← e])); simpa using this, fun hb' hk => by obtain ⟨g, hx, hc, ho⟩ := h.c1 hb' (by omega); exact ⟨g, hx, blk_grown hc hg ho.o3, up g ho⟩, (if_pos (by decide)).symm, by rw [if_pos (by decide)]; exact hr, fun _ hk => absurd hk (by decide), by have := h.e3; simpa using this, by have := R_grow flat_i h.r3 hg (fun k hk e => h.s23 (by rw [hk, ← e])); simpa using this, fun hb' hk => by obtain ⟨g, hx, hc, ho⟩ := h.c3 hb' (by omega); exact ⟨g, hx, blk_grown hc hg ho.o3, up g ho⟩⟩
theorem Rg.build4 {w0 : World} {bp bm bx : Nat} {v0 v2 v3 v4 vms : Value} {N : List ByteArray} {E : List PEnt} {ms : List S83} {y : ByteArray} {i : Nat} {f t : Int} {d : Nat} {b1 b2 b3 : Bool} {k : Nat} {x65 x66 x70 x71 x75 x76 x85 x86 u0 u2 u3 u4 : Value} {w : World} (h : Rg w0 bp bm bx v0 v2 v3 v4 vms N E ms y i f t d b1 b2 b3 false k x65 x66 x70 x71 x75 x76 x85 x86 u0 u2 u3 u4 w) : Rg w0 bp bm bx v0 v2 v3 v4 vms N E ms y i f t d b1 b2 b3 true k x65 x66 x70 x71 x75 x76 (.slice (some ⟨w.heap.size, 0, none⟩) 1 1) x86 u0 u2 u3 u4 (w.alloc (.cells #[.int .i64 (d : Int)] 3 (0, 0))) := by
  have hb := below_alloc (Below.refl w.heap.size w) (.cells #[.int .i64 (d : Int)] 3 (0, 0))
  have hs : w.heap.size ≤ (w.alloc (.cells #[.int .i64 (d : Int)] 3 (0, 0))).heap.size := hb.size
  exact ⟨below_alloc h.B _, blk_alloc h.res _, blk_alloc h.p _, h.lt, h.lm, h.m.alloc _, blk_alloc h.bx_ _, Kd.R_below h.ms_ hb, fun g hg => (h.om g hg).up hs, h.o1.up hs, h.o2.up hs, h.o3.up hs, h.o4.up hs, h.s01, h.s02, h.s03, h.s12, h.s13, h.s23, h.e0, Kd.R_below h.r0 hb, fun hb' hk => by obtain ⟨g, hx, hc, ho⟩ := h.c0 hb' hk; exact ⟨g, hx, blk_alloc hc _, ho.up hs⟩, h.e1, Kd.R_below h.r1 hb, fun hb' hk => by obtain ⟨g, hx, hc, ho⟩ := h.c1 hb' hk; exact ⟨g, hx, blk_alloc hc _, ho.up hs⟩, h.e2, Kd.R_below h.r2 hb, fun hb' hk => by obtain ⟨g, hx, hc, ho⟩ := h.c2 hb' hk; exact ⟨g, hx, blk_alloc hc _, ho.up hs⟩, h.e3, Kd.R_below h.r3 hb, fun _ _ => ⟨w.heap.size, rfl, blk_new w _, ⟨by simp, fun e => by have := R_lt h.r0 _ e.symm; omega, fun e => by have := R_lt h.r1 _ e.symm; omega, fun e => by have := R_lt h.r2 _ e.symm; omega, fun e => by have := R_lt h.r3 _ e.symm; omega⟩⟩⟩
theorem Rg.app4 {w0 : World} {bp bm bx : Nat} {v0 v2 v3 v4 vms : Value} {N : List ByteArray} {E : List PEnt} {ms : List S83} {y : ByteArray} {i : Nat} {f t : Int} {d : Nat} {b1 b2 b3 b4 : Bool} {x65 x66 x70 x71 x75 x76 x85 x86 u0 u2 u3 u4 u' : Value} {w w1 : World} (h : Rg w0 bp bm bx v0 v2 v3 v4 vms N E ms y i f t d b1 b2 b3 b4 3 x65 x66 x70 x71 x75 x76 x85 x86 u0 u2 u3 u4 w) (hr : Kd.R (Kd.int .i64) 3 w1 w0.heap.size T_ u' ((E.map fun e => (e.dep : Int)) ++ [(d : Int)])) (hB : Below w0.heap.size w0 w1) (hg : w.grownBy w1 u4.ownBlock) (hat : u'.ownBlock = u4.ownBlock ∨ ∃ b, u'.ownBlock = some b ∧ w.heap.size ≤ b) : Rg w0 bp bm bx v0 v2 v3 v4 vms N E ms y i f t d b1 b2 b3 b4 4 x65 x66 x70 x71 x75 x76 x85 u' u0 u2 u3 u' w1 := by
  have hs : w.heap.size ≤ w1.heap.size := hg.size
  have up : ∀ g, Off w u0 u2 u3 u4 g → Off w1 u0 u2 u3 u' g := fun (g : Nat) (ho : Off w u0 u2 u3 u4 g) => (⟨Nat.lt_of_lt_of_le ho.lt hs, ho.o0, ho.o2, ho.o3, off_one ho.lt ho.o4 hat⟩ : Off w1 u0 u2 u3 u' g)
  exact ⟨hB, blk_grown h.res hg h.o1.o4, blk_grown h.p hg h.o2.o4, h.lt, h.lm, h.m.kept hg h.o3.o4, blk_grown h.bx_ hg h.o4.o4, R_grow flat_m h.ms_ hg (fun k hk => (h.om k hk).o4), fun g hg' => up g (h.om g hg'), up _ h.o1, up _ h.o2, up _ h.o3, up _ h.o4, h.s01, h.s02, sep_one (R_lt h.r0) h.s03 hat, h.s12, sep_one (R_lt h.r1) h.s13 hat, sep_one (R_lt h.r2) h.s23 hat, by have := h.e0; simpa using this, by have := R_grow flat_s h.r0 hg (fun k hk e => h.s03 (by rw [hk, ← e])); simpa using this, fun hb' hk => by obtain ⟨g, hx, hc, ho⟩ := h.c0 hb' (by omega); exact ⟨g, hx, blk_grown hc hg ho.o4, up g ho⟩, by have := h.e1; simpa using this, by have := R_grow flat_i h.r1 hg (fun k hk e => h.s13 (by rw [hk, ← e])); simpa using this, fun hb' hk => by obtain ⟨g, hx, hc, ho⟩ := h.c1 hb' (by omega); exact ⟨g, hx, blk_grown hc hg ho.o4, up g ho⟩, by have := h.e2; simpa using this, by have := R_grow flat_m h.r2 hg (fun k hk e => h.s23 (by rw [hk, ← e])); simpa using this, fun hb' hk => by obtain ⟨g, hx, hc, ho⟩ := h.c2 hb' (by omega); exact ⟨g, hx, blk_grown hc hg ho.o4, up g ho⟩, (if_pos (by decide)).symm, by rw [if_pos (by decide)]; exact hr, fun _ hk => absurd hk (by decide)⟩
theorem R_icell {e base g n cap : Nat} {ok : Nat → Prop} {w : World} {xs : List Int} (h : (Kd.int .i64).R e w base ok (.slice (some ⟨g, 0, none⟩) n cap) xs) (i : Int) (h0 : 0 ≤ i) (hi : i < n) : w.cell? ⟨g, i.toNat, none⟩ = some (.int .i64 (rdOf 0 xs i)) := (Kd.R_celln (enc := Value.int .i64) (h1 := fun _ => rfl) 0 h i h0 hi).1
theorem R_ne_map {α : Type} {d : Kd α} {e base : Nat} {ok : Nat → Prop} {w : World} {v : Value} {xs : List α} {P : Program} {K E : TypeId} {b : Nat} {N : List ByteArray} (h : d.R e w base ok v xs) (hm : MapIs P K E w b N) : some b ≠ v.ownBlock := fun e' => by
  obtain ⟨inner, ho⟩ := Kd.R_own h
  obtain ⟨cells, hc⟩ := own_typed ho b e'.symm
  exact hm.ne_cells hc rfl
theorem R_sep {α β : Type} {d : Kd α} {d' : Kd β} {e e' base : Nat} {ok ok' : Nat → Prop} {w : World} {v v' : Value} {xs : List α} {ys : List β} (h : d.R e w base ok v xs) (h' : d'.R e' w base ok' v' ys) (hx : 0 < xs.length) (hne : e' ≠ e) : v.ownBlock ≠ v'.ownBlock := by
  obtain ⟨g, cap, rfl⟩ := R_form h hx
  obtain ⟨inner, ho⟩ := Kd.R_own h
  obtain ⟨cells, hc⟩ := own_typed ho g rfl
  exact Kd.R_ne h' hc hne
theorem Pw.put {w0 w w1 : World} {bp bm : Nat} {v0 v2 v3 v4 : Value} {N N' : List ByteArray} {E : List PEnt} (h : Pw w0 w bp bm v0 v2 v3 v4 N E) (hg : w.grownBy w1 (some bm)) (hm : MapIs Tryd.prog 9 3 w1 bm N') : Pw w0 w1 bp bm v0 v2 v3 v4 N' E :=
  ⟨h.B.grown hg h.B.size (fun k e => by cases e; exact Nat.le_of_lt h.lm), blk_grown h.res hg (fun e => by cases e; exact h.m.ne_cells h.res rfl), blk_grown h.p hg (fun e => by cases e; exact h.m.ne_cells h.p rfl), h.lt, h.lm, hm,
    R_grow flat_s h.r0 hg (fun k hk e => R_ne_map h.r0 h.m (by rw [hk, e])), R_grow flat_i h.r2 hg (fun k hk e => R_ne_map h.r2 h.m (by rw [hk, e])), R_grow flat_m h.r3 hg (fun k hk e => R_ne_map h.r3 h.m (by rw [hk, e])), R_grow flat_i h.r4 hg (fun k hk e => R_ne_map h.r4 h.m (by rw [hk, e])), h.ne⟩
theorem reads_one {α : Type} {R : α → List Value → Prop} {size g e : Nat} {w : World} {x : α} {cs : List Value} (hb : w.heap[g]? = some (.cells cs.toArray e (0, 0))) (hl : cs.length = size) (h : R x cs) : ReadsRow R size w (some ⟨g, 0, none⟩) 1 [x] := by
  refine ⟨rfl, by decide, fun _ => ⟨_, rfl, fun j p hj => ?_⟩⟩
  cases j with
  | succ j => simp at hj
  | zero =>
    simp at hj
    subst hj
    refine ⟨cs, hl, h, fun i u hi => ?_⟩
    rw [Nat.zero_mul, Nat.zero_add, Addr.add_lit, Nat.zero_add, blk_cell hb i]
    simpa using hi
/-- the region's states: which of the four cells are built, whether the list's address is read, how many rows have grown -/
abbrev St4 := Bool × Bool × Bool × Bool × Bool × Nat
def L4 : St4 → Array Bool := fun (b1, b2, b3, b4, b5, k) => #[true, true, true, b1, decide (1 ≤ k), true, true, true, b2, decide (2 ≤ k), true, true, true, b3, decide (3 ≤ k), true, true, true, true, true, true, true, true, b4, decide (4 ≤ k), b5, false, false, false, false, false, false, false]
def nx4 : St4 → List (Nat × St4) := fun (b1, b2, b3, b4, b5, k) =>
  (if b1 = false then [(3, (true, b2, b3, b4, b5, k))] else []) ++ (if b1 = true ∧ k = 0 then [(4, (b1, b2, b3, b4, b5, 1))] else []) ++ (if b2 = false then [(8, (b1, true, b3, b4, b5, k))] else []) ++ (if b2 = true ∧ k = 1 then [(9, (b1, b2, b3, b4, b5, 2))] else []) ++
  (if b3 = false then [(13, (b1, b2, true, b4, b5, k))] else []) ++ (if b3 = true ∧ k = 2 then [(14, (b1, b2, b3, b4, b5, 3))] else []) ++ (if b4 = false then [(23, (b1, b2, b3, true, b5, k))] else []) ++ (if b4 = true ∧ k = 3 then [(24, (b1, b2, b3, b4, b5, 4))] else []) ++ (if 1 ≤ k ∧ b5 = false then [(25, (b1, b2, b3, b4, true, k))] else [])
def rk4 : St4 → Nat := fun (b1, b2, b3, b4, b5, k) => (4 - k) + (if b1 then 0 else 1) + (if b2 then 0 else 1) + (if b3 then 0 else 1) + (if b4 then 0 else 1) + (if b5 then 0 else 1)
def all4 : List St4 := ([false, true].flatMap fun b1 => [false, true].flatMap fun b2 => [false, true].flatMap fun b3 => [false, true].flatMap fun b4 => [false, true].flatMap fun b5 => [0, 1, 2, 3, 4].map fun k => (b1, b2, b3, b4, b5, k)).filter fun (b1, b2, b3, b4, b5, k) => (b1 || k == 0) && (b2 || decide (k ≤ 1)) && (b3 || decide (k ≤ 2)) && (b4 || decide (k ≤ 3)) && (!b5 || decide (1 ≤ k))
theorem end4 {s : St4} (hs : s ∈ all4) (h : rk4 s = 0) : s = (true, true, true, true, true, 4) := by
  have : all4.all (fun s => rk4 s != 0 || s == (true, true, true, true, true, 4)) = true := by decide +kernel
  have := List.all_eq_true.1 this s hs
  rw [h] at this
  simpa using this
theorem norm_op {P : Program} {ops : Array Oper} {Q : Exit → Act → World → Prop} {i : Nat} {K : Act → World → Prop} {a a' : Act} {w : World} (ha : a = a') (h : wpOp P ops Q i K a' w) : wpOp P ops Q i K a w := ha ▸ h
theorem name_act {P : Program} {md : Region.Mode} {ops : Array Oper} {Q : Exit → Act → World → Prop} {S : World → Prop} {ds : List Nat} {fuel : Nat} {l : Array Bool} {a : Act} {w : World} (h : ∀ a1 : Act, a1 = a → wpAnyLast P md ops Q S ds fuel l a1 w) : wpAnyLast P md ops Q S ds fuel l a w := h a rfl
/-- what is known of what was found -/
structure Pe (E : List PEnt) : Prop where
  nd : (Bfs.nodes E).Nodup
  len : E.length ≤ 1000000
  sz : ∀ e ∈ E, e.node.size ≤ 1000 ∧ e.dep ≤ 1000000
/-- how what was found lies in memory, behind the call -/
def PathsAt (w0 w : World) (v : Value) (E : List PEnt) : Prop := ∃ (bm : Nat) (v0 v2 v3 v4 : Value), v = .agg #[v0, .map (some bm), v2, v3, v4] ∧ w0.heap.size < bm ∧ MapIs Tryd.prog 9 3 w bm (Bfs.nodes E) ∧ Kd.R Kd.string 9 w w0.heap.size T_ v0 (Bfs.nodes E) ∧ Kd.R (Kd.int .i64) 3 w w0.heap.size T_ v2 (E.map (·.par)) ∧ Kd.R k83 83 w w0.heap.size T_ v3 (E.map (·.mov)) ∧ Kd.R (Kd.int .i64) 3 w w0.heap.size T_ v4 (E.map fun e => (e.dep : Int)) ∧ v2.ownBlock ≠ v4.ownBlock
theorem Rg.stored {w0 : World} {bp bm bx : Nat} {v0 v2 v3 v4 vms : Value} {E : List PEnt} {ms : List S83} {y : ByteArray} {i : Nat} {f t : Int} {d : Nat} {x65 x66 x70 x71 x75 x76 x85 x86 u0 u2 u3 u4 : Value} {w : World}
    (h : Rg w0 bp bm bx v0 v2 v3 v4 vms (Bfs.nodes E ++ [y]) E ms y i f t d true true true true 4 x65 x66 x70 x71 x75 x76 x85 x86 u0 u2 u3 u4 w) :
    Pw w0 ((((w.setCell ⟨bp, 0, none⟩ u0).setCell ⟨bp, 2, none⟩ u2).setCell ⟨bp, 3, none⟩ u3).setCell ⟨bp, 4, none⟩ u4) bp bm u0 u2 u3 u4 (Bfs.nodes (E ++ [⟨y, (i : Int), ⟨f, t⟩, d⟩])) (E ++ [⟨y, (i : Int), ⟨f, t⟩, d⟩]) ∧
      Kd.R k83 83 ((((w.setCell ⟨bp, 0, none⟩ u0).setCell ⟨bp, 2, none⟩ u2).setCell ⟨bp, 3, none⟩ u3).setCell ⟨bp, 4, none⟩ u4) w0.heap.size T_ vms ms ∧ (∀ k, vms.ownBlock = some k → some k ≠ u3.ownBlock) := by
  have hk : ∀ k, k ≠ bp → ((((w.setCell ⟨bp, 0, none⟩ u0).setCell ⟨bp, 2, none⟩ u2).setCell ⟨bp, 3, none⟩ u3).setCell ⟨bp, 4, none⟩ u4).heap[k]? = w.heap[k]? := fun k hk => by
    rw [Below.heap_setCell _ ⟨bp, 4, none⟩ u4 k hk, Below.heap_setCell _ ⟨bp, 3, none⟩ u3 k hk, Below.heap_setCell _ ⟨bp, 2, none⟩ u2 k hk, Below.heap_setCell _ ⟨bp, 0, none⟩ u0 k hk]
  have ob : ∀ (u : Value), some bp ≠ u.ownBlock → ∀ k, u.ownBlock = some k → k ≠ bp := fun u hu k hk e => hu (by rw [hk, e])
  have hle := Nat.le_of_lt h.lt
  have n0 : Bfs.nodes (E ++ [⟨y, (i : Int), ⟨f, t⟩, d⟩]) = Bfs.nodes E ++ [y] := by simp [Bfs.nodes]
  have q0 := R_stay flat_s h.r0 (fun k hk' => hk k (ob u0 h.o2.o0 k hk'))
  have q2 := R_stay flat_i h.r1 (fun k hk' => hk k (ob u2 h.o2.o2 k hk'))
  have q3 := R_stay flat_m h.r2 (fun k hk' => hk k (ob u3 h.o2.o3 k hk'))
  have q4 := R_stay flat_i h.r3 (fun k hk' => hk k (ob u4 h.o2.o4 k hk'))
  rw [if_pos (by decide)] at q0 q2 q3 q4
  refine ⟨⟨(((h.B.setCell (p := ⟨bp, 0, none⟩) hle u0).setCell (p := ⟨bp, 2, none⟩) hle u2).setCell (p := ⟨bp, 3, none⟩) hle u3).setCell (p := ⟨bp, 4, none⟩) hle u4, (hk _ (Nat.ne_of_lt h.lt)).trans h.res, blk_put (blk_put (blk_put (blk_put h.p 0 u0 rfl) 2 u2 rfl) 3 u3 rfl) 4 u4 rfl, h.lt, h.lm, ?_, ?_, ?_, ?_, ?_, h.s13⟩,
    R_stay flat_m h.ms_ (fun k hk' => hk k (ob vms (Kd.R_ne h.ms_ h.p (by decide)) k hk')), fun k hk' => (h.om k hk').o3⟩
  · rw [n0]
    exact h.m.move (hk _ (h.m.ne_cells h.p))
  · rw [n0]; exact q0
  · rw [List.map_append]; exact q2
  · rw [List.map_append]; exact q3
  · rw [List.map_append]; exact q4
theorem Pe.snoc {E : List PEnt} (h : Pe E) {y : ByteArray} {i : Int} {m : S83} {d : Nat} (hl : E.length < 1000000) (hd : d < 1000000) (hy : y.size ≤ 1000) (hn : y ∉ Bfs.nodes E) : Pe (E ++ [⟨y, i, m, d + 1⟩]) := by
  refine ⟨?_, by rw [List.length_append, List.length_singleton]; omega, fun e he => ?_⟩
  · rw [show Bfs.nodes (E ++ [⟨y, i, m, d + 1⟩]) = Bfs.nodes E ++ [y] by simp [Bfs.nodes]]
    refine List.nodup_append.2 ⟨h.nd, by simp, fun a ha b hb e => ?_⟩
    rw [List.mem_singleton] at hb
    subst hb
    exact hn (e ▸ ha)
  · rcases List.mem_append.1 he with he | he
    · exact h.sz e he
    · rw [List.mem_singleton] at he
      subst he
      exact ⟨hy, by show d + 1 ≤ 1000000; omega⟩
set_option maxHeartbeats 4000000 in
set_option maxRecDepth 1000000 in
theorem impl_pathsFrom.walk (g : FuncId) (lb : Array Value) (he : Enters Tryd.prog g) (M : ByteArray → Option (List S83)) (a : ByteArray) (ha : a.size ≤ 1000) (K : Nat) (EF : List PEnt) (w : World)
    (hM : ∀ (W : World) (s : ByteArray) (ms : List S83), Below w.heap.size w W → M s = some ms → Calls Tryd.prog g (#[.string s] ++ lb) W fun e W' => ∃ v, e = .returned v ∧ Kd.R k83 83 W' W.heap.size (fun _ => True) v ms ∧ Below W.heap.size W W')
    (h : pathsO M K 0 [⟨a, -1, ⟨0, 0⟩, 0⟩] = some EF) :
    Calls Tryd.prog 52 #[.string a, .func (.func g) #[] lb] w fun e w' => ∃ v, e = .returned v ∧ PathsAt w w' v EF ∧ Pe EF ∧ Below w.heap.size w w' := by
  have eg : ∀ (args : Array Value) (w : World), (callFunc g args).run Tryd.prog w = .ok (.enter g args) w := he
  have hmm := @run_makeMap Tryd.prog
  have HM := Aside0.mk hM
  have HH := Lib.hid h
  clear hM h
  obtain ⟨W0, hW0⟩ : ∃ W0, ((w.alloc (.cells #[.slice none 0 0, .map none, .slice none 0 0, .slice none 0 0, .slice none 0 0] 67 (0, 0))).alloc (.cells #[.string a] 9 (0, 0))) = W0 := ⟨_, rfl⟩
  have hs0 : W0.heap.size = w.heap.size + 1 + 1 := by rw [← hW0]; simp
  have hB0 : Below w.heap.size w W0 := hW0 ▸ below_alloc (below_alloc (Below.refl _ _) _) _
  have hres0 : W0.heap[w.heap.size]? = some (.cells zP 67 (0, 0)) := hW0 ▸ blk_alloc (blk_new w _) _
  have hl0 : W0.heap[w.heap.size + 1]? = some (.cells #[.string a] 9 (0, 0)) := by
    rw [← hW0, show w.heap.size + 1 = (w.alloc (.cells #[.slice none 0 0, .map none, .slice none 0 0, .slice none 0 0, .slice none 0 0] 67 (0, 0))).heap.size by simp]
    exact blk_new _ _
  obtain ⟨W1, hrun, hm1, hg1⟩ := (MapIs.made (P := Tryd.prog) (K := 9) (E := 3) W0).put (T := 64) Tryd.underlying9 Tryd.underlying64 Tryd.underlying3 a (by unfold maxLen; omega) (by decide) (by simp)
  rw [hs0, List.nil_append] at hm1
  rw [hs0] at hrun hg1
  replace hrun : (Instr.mapUpdate 64 (.map (some (w.heap.size + 1 + 1))) (.string a) (.int .i64 0)).run Tryd.prog (W0.alloc (.map #[] 0)) = .ok () W1 := hrun
  have hB1 : Below w.heap.size w W1 := (below_alloc hB0 _).grown hg1 (by simp; omega) (fun k e => by cases e; omega)
  have hres1 := blk_grown (blk_alloc hres0 (.map #[] 0)) hg1 (by simp; omega)
  have hl1 := blk_grown (blk_alloc hl0 (.map #[] 0)) hg1 (by simp)
  rw [← hW0] at hrun
  clear hW0 hB0 hres0 hl0 hs0 hg1 W0
  have hz1 := hB1.size
  go_enter Tryd.func52, Tryd.ntmps52
  go_wp2_with fail
  obtain ⟨W2, hW2⟩ : ∃ W2, (((W1.alloc (.cells #[.int .i64 (-1)] 3 (0, 0))).alloc (.cells #[.int .i64 0, .int .i64 0] 83 (0, 0))).alloc (.cells #[.int .i64 0] 3 (0, 0))).alloc (.cells #[.slice (some ⟨w.heap.size + 1, 0, none⟩) 1 1, .map (some (w.heap.size + 1 + 1)), .slice (some ⟨W1.heap.size, 0, none⟩) 1 1, .slice (some ⟨W1.heap.size + 1, 0, none⟩) 1 1, .slice (some ⟨W1.heap.size + 1 + 1, 0, none⟩) 1 1] 67 (0, 0)) = W2 := ⟨_, rfl⟩
  have hP2 : Pw w W2 (W1.heap.size + 1 + 1 + 1) (w.heap.size + 1 + 1) (.slice (some ⟨w.heap.size + 1, 0, none⟩) 1 1) (.slice (some ⟨W1.heap.size, 0, none⟩) 1 1) (.slice (some ⟨W1.heap.size + 1, 0, none⟩) 1 1) (.slice (some ⟨W1.heap.size + 1 + 1, 0, none⟩) 1 1) [a] [⟨a, -1, ⟨0, 0⟩, 0⟩] := by
    have hb12 : Below W1.heap.size W1 W2 := hW2 ▸ below_alloc (below_alloc (below_alloc (below_alloc (Below.refl _ _) _) _) _) _
    have z1 : (W1.alloc (.cells #[.int .i64 (-1)] 3 (0, 0))).heap.size = W1.heap.size + 1 := by simp
    have z2 : ((W1.alloc (.cells #[.int .i64 (-1)] 3 (0, 0))).alloc (.cells #[.int .i64 0, .int .i64 0] 83 (0, 0))).heap.size = W1.heap.size + 1 + 1 := by simp
    have z3 : (((W1.alloc (.cells #[.int .i64 (-1)] 3 (0, 0))).alloc (.cells #[.int .i64 0, .int .i64 0] 83 (0, 0))).alloc (.cells #[.int .i64 0] 3 (0, 0))).heap.size = W1.heap.size + 1 + 1 + 1 := by simp
    have b2 : W2.heap[W1.heap.size]? = some (.cells #[.int .i64 (-1)] 3 (0, 0)) := hW2 ▸ blk_alloc (blk_alloc (blk_alloc (blk_new W1 _) _) _) _
    have b3 : W2.heap[W1.heap.size + 1]? = some (.cells #[.int .i64 0, .int .i64 0] 83 (0, 0)) := hW2 ▸ blk_alloc (blk_alloc (z1 ▸ blk_new _ _) _) _
    have b4 : W2.heap[W1.heap.size + 1 + 1]? = some (.cells #[.int .i64 0] 3 (0, 0)) := hW2 ▸ blk_alloc (z2 ▸ blk_new _ _) _
    have b5 : W2.heap[W1.heap.size + 1 + 1 + 1]? = some (.cells #[.slice (some ⟨w.heap.size + 1, 0, none⟩) 1 1, .map (some (w.heap.size + 1 + 1)), .slice (some ⟨W1.heap.size, 0, none⟩) 1 1, .slice (some ⟨W1.heap.size + 1, 0, none⟩) 1 1, .slice (some ⟨W1.heap.size + 1 + 1, 0, none⟩) 1 1] 67 (0, 0)) := hW2 ▸ (z3 ▸ blk_new _ _)
    refine ⟨below_step hB1 hb12, blk_below hres1 hb12, b5, by omega, by omega, hm1.below hb12, R_one Kd.string (blk_below hl1 hb12) (by omega) (fun _ => rfl), R_one (Kd.int .i64) b2 (by omega) (fun _ => rfl), R_one k83 b3 (by omega) (fun ok => k83_mkM _ _ ok ⟨0, 0⟩), R_one (Kd.int .i64) b4 (by omega) (fun _ => rfl), ?_⟩
    simp [Value.ownBlock]
    omega
  have hE2 : Pe [⟨a, -1, ⟨0, 0⟩, 0⟩] := ⟨by simp [Bfs.nodes], by simp, fun e he => by rw [List.mem_singleton] at he; subst he; exact ⟨ha, Nat.zero_le _⟩⟩
  rw [hW2]
  clear hW2 hB1 hres1 hl1 hm1
  generalize W1.heap.size + 1 + 1 + 1 = bp at *
  generalize w.heap.size + 1 + 1 = bm at *
  generalize Value.slice (some ⟨w.heap.size + 1, 0, none⟩) 1 1 = v0 at *
  generalize Value.slice (some ⟨W1.heap.size, 0, none⟩) 1 1 = v2 at *
  generalize Value.slice (some ⟨W1.heap.size + 1, 0, none⟩) 1 1 = v3 at *
  generalize Value.slice (some ⟨W1.heap.size + 1 + 1, 0, none⟩) 1 1 = v4 at *
  clear hrun
  go_loopg [6] K (fun kq x6 wr => ∃ (i : Nat) (u0 u2 u3 u4 : Value) (E : List PEnt), x6 = .int .i64 (i : Int) ∧ Aside0 (Pw w wr bp bm u0 u2 u3 u4 (Bfs.nodes E) E) ∧ Aside0 (Pe E) ∧ Hid (pathsO M kq i E = some EF) ∧ i ≤ E.length ∧ 0 < E.length)
  case atStart => exact ⟨0, v0, v2, v3, v4, [⟨a, -1, ⟨0, 0⟩, 0⟩], rfl, Aside0.mk hP2, Aside0.mk hE2, HH, Nat.zero_le _, Nat.zero_lt_one⟩
  case round =>
    clear hP2 hE2 HH W2
    obtain ⟨i, u0, u2, u3, u4, E, rfl, HP, HE, HO, hi, hE0⟩ := hrel
    have ho := HO.out
    have hP := HP.out
    obtain ⟨g0, c0, hu0⟩ := R_form hP.r0 (by rw [nodes_len]; exact hE0)
    rw [nodes_len] at hu0
    subst hu0
    have hc0 : wr.cell? ⟨bp, 0, none⟩ = some (.slice (some ⟨g0, 0, none⟩) E.length c0) := (blk_cell hP.p 0).trans rfl
    have hpi : (0 : Int) ≤ (i : Int) := Int.natCast_nonneg _
    cases gk with
    | zero => cases ho
    | succ g' =>
      simp only [pathsO] at ho
      by_cases hlt : i < E.length
      · have hdec : decide ((i : Int) < (E.length : Int)) = true := decide_eq_true (by omega)
        obtain ⟨e, he⟩ : ∃ e, E[i]? = some e := ⟨_, List.getElem?_eq_getElem hlt⟩
        rw [he] at ho
        simp only at ho
        obtain ⟨ms, hms, ho⟩ := Option.bind_eq_some_iff.mp ho
        by_cases hml : ms.length ≤ 1000000
        case neg => rw [if_neg hml] at ho; cases ho
        rw [if_pos hml] at ho
        obtain ⟨E2, hv, ho⟩ := Option.bind_eq_some_iff.mp ho
        have hcl := (Kd.R_celln ByteArray.empty (by rw [← nodes_len] at hP; exact hP.r0) (i : Int) hpi (by rw [nodes_len]; omega)).1
        rw [Int.toNat_natCast, nodes_rd he] at hcl
        have HV := Lib.hid hv
        have HP1 := Lib.hid ho
        have hsx := (HE.out.sz e (List.mem_of_getElem? he)).1
        clear hv ho HO
        go_wp2_with (first
          | (go_at_fn g; refine (HM.out _ e.node ms hP.B hms).mono ?_; rintro e1 W3 ⟨vms, rfl, hRm, hb3⟩; obtain ⟨Am, cm, rfl⟩ := Kd.R_slice hRm))
        have hP3 := hP.up hb3
        have hR3 : Kd.R k83 83 W3 w.heap.size T_ (.slice Am ms.length cm) ms := Kd.R_mono (Kd.R_lower hRm hP.B.size) (fun _ _ => trivial)
        have hnm : ∀ k, (Value.slice Am ms.length cm).ownBlock = some k → some k ≠ u3.ownBlock := fun k hk e3 => by
          have h1 := R_lt hP.r3 k e3.symm
          obtain ⟨inner, ho⟩ := Kd.R_own hRm
          have h2 := own_base ho k hk
          omega
        clear hb3 hRm hP HP hc0 hcl hms hdec
        go_loopw [37] (fun x37 wq => ∃ (j : Nat) (q0 q2 q3 q4 : Value) (E1 : List PEnt), x37 = .int .i64 (j : Int) ∧ j ≤ ms.length ∧ Aside0 (Pw w wq bp bm q0 q2 q3 q4 (Bfs.nodes E1) E1) ∧ Aside0 (Pe E1) ∧ Hid (visitO i e.dep e.node (ms.drop j) E1 = some E2) ∧ Hid (E1[i]? = some e) ∧
            Aside0 (Kd.R k83 83 wq w.heap.size T_ (.slice Am ms.length cm) ms) ∧ Aside0 (∀ k, (Value.slice Am ms.length cm).ownBlock = some k → some k ≠ q3.ownBlock)) (fun x37 _ => ms.length - (RowKit.intOf x37).toNat)
        case atStart => exact ⟨0, _, u2, u3, u4, E, rfl, Nat.zero_le _, Aside0.mk hP3, HE, HV, Lib.hid he, Aside0.mk hR3, Aside0.mk hnm⟩
        case round =>
          clear hP3 HE HV he hR3 hnm
          obtain ⟨j, q0, q2, q3, q4, E1, rfl, hj, HQ, HE, HV, hei, HR, HN⟩ := hrel
          have hQ := HQ.out
          have hv := HV.out
          have hie := (List.getElem?_eq_some_iff.1 hei.out).1
          by_cases hjl : j < ms.length
          · have hdec : decide ((j : Int) < (ms.length : Int)) = true := decide_eq_true (by omega)
            obtain ⟨gm, cm', hvm⟩ := R_form HR.out (by omega)
            injection hvm with hA _ hcm
            subst hA
            subst hcm
            obtain ⟨ad, ead, hx0, hx1⟩ := at_T83 (Kd.R_reads' HR.out).2.2 (j : Int) (by omega) (by omega)
            have hd : ms.drop j = rd_T83 ms (j : Int) :: ms.drop (j + 1) := by
              rw [List.drop_eq_getElem_cons hjl]
              unfold rd_T83
              rw [Int.toNat_natCast, List.getD_eq_getElem?_getD, List.getElem?_eq_getElem hjl]
              rfl
            rw [hd] at hv
            rw [Int.toNat_natCast] at hx0 hx1
            clear hd HV
            cases ead
            generalize rd_T83 ms (j : Int) = m at *
            obtain ⟨f, t⟩ := m
            replace hx0 : wr.cell? ⟨gm, j * 2, none⟩ = some (.int .i64 f) := by rw [Addr.add_lit, Nat.zero_add] at hx0; exact hx0
            replace hx1 : wr.cell? ⟨gm, j * 2 + 1, none⟩ = some (.int .i64 t) := by rw [Addr.add_lit, Nat.zero_add] at hx1; exact hx1
            simp only [visitO] at hv
            obtain ⟨y, hy, hv⟩ := Option.bind_eq_some_iff.mp hv
            by_cases hys : y.size ≤ 1000
            case neg => rw [if_neg hys] at hv; cases hv
            rw [if_pos hys] at hv
            have hp0 : (0 : Int) ≤ (j : Int) := Int.natCast_nonneg _
            obtain ⟨g0', c0', hu0⟩ := R_form hQ.r0 (by rw [nodes_len]; omega)
            rw [nodes_len] at hu0
            subst hu0
            have hcl := (Kd.R_celln ByteArray.empty (by rw [← nodes_len] at hQ; exact hQ.r0) (i : Int) hpi (by rw [nodes_len]; omega)).1
            rw [Int.toNat_natCast, nodes_rd hei.out] at hcl
            go_wp2_with fail
            have hb4 : Below wr.heap.size wr (wr.alloc (.cells #[.int .i64 f, .int .i64 t] 83 (0, 0))).drew := below_drew1 (below_alloc (Below.refl _ _) _)
            have hbx : (wr.alloc (.cells #[.int .i64 f, .int .i64 t] 83 (0, 0))).drew.heap[wr.heap.size]? = some (.cells #[.int .i64 f, .int .i64 t] 83 (0, 0)) := blk_drew (blk_new wr _)
            have hbl : ∀ k, q3.ownBlock = some k → k < wr.heap.size := R_lt hQ.r3
            have hQ4 := hQ.up hb4
            have hR4 := Kd.R_below HR.out hb4
            have hcl4 := (hb4.cell (World.block_lt_of_cell? wr _ hcl)).trans hcl
            clear hx0 hx1 HR hb4 hcl
            refine start_ (n := 8) (S := fun w' => w'.cell? ⟨bp, 0, none⟩ = some (.slice (some ⟨g0', 0, none⟩) E1.length c0') ∧ w'.cell? ⟨g0', i, none⟩ = some (.string e.node) ∧ w'.cell? ⟨wr.heap.size, 0, none⟩ = some (.int .i64 f) ∧ w'.cell? ⟨wr.heap.size, 1, none⟩ = some (.int .i64 t)) (ds := []) #[false, false, false, false, false, false, false, false] (by kernel_rfl) rfl rfl ⟨(blk_cell hQ4.p 0).trans rfl, hcl4, (blk_cell hbx 0).trans rfl, (blk_cell hbx 1).trans rfl⟩ (fun hHeld => ?_)
            generalize (wr.alloc (.cells #[.int .i64 f, .int .i64 t] 83 (0, 0))).drew = W4 at *
            refine pure_ (i := 0) (N := some 41) (v := ?_) (a' := ?_) #[true, false, false, false, false, false, false, false] rfl rfl (by kernel_rfl) (fun _ _ _ h => h) (Or.inl ⟨by rfl, ?_⟩) ?_ ?_
            rotate_left
            · intro w'
              go_simp
              with_reducible rfl
            rotate_left
            · simp only [Act.put, List.setIfInBounds_toArray, List.set_cons_zero, List.set_cons_succ, i64_w, i32_w]
              rfl
            refine take_ (i := 1) (N := some 42) (v := ?_) (a' := ?_) #[true, true, false, false, false, false, false, false] rfl rfl (by kernel_rfl) (fun _ _ _ h => h) (Or.inl ⟨by rfl, ?_⟩) hHeld ?_ ?_
            rotate_left
            · rintro w' ⟨s0, s1, s2, s3⟩
              go_simp
              with_reducible rfl
            rotate_left
            · simp only [Act.put, List.setIfInBounds_toArray, List.set_cons_zero, List.set_cons_succ, i64_w, i32_w]
              rfl
            refine pure_ (i := 2) (N := some 43) (v := ?_) (a' := ?_) #[true, true, true, false, false, false, false, false] rfl rfl (by kernel_rfl) (fun _ _ _ h => h) (Or.inl ⟨by rfl, ?_⟩) ?_ ?_
            rotate_left
            · intro w'
              go_simp
              with_reducible rfl
            rotate_left
            · simp only [Act.put, List.setIfInBounds_toArray, List.set_cons_zero, List.set_cons_succ, i64_w, i32_w]
              rfl
            refine pure_ (i := 3) (N := some 44) (v := ?_) (a' := ?_) #[true, true, true, true, false, false, false, false] rfl rfl (by kernel_rfl) (fun _ _ _ h => h) (Or.inl ⟨by rfl, ?_⟩) ?_ ?_
            rotate_left
            · intro w'
              go_simp
              with_reducible rfl
            rotate_left
            · simp only [Act.put, List.setIfInBounds_toArray, List.set_cons_zero, List.set_cons_succ, i64_w, i32_w]
              rfl
            refine take_ (i := 4) (N := some 45) (v := ?_) (a' := ?_) #[true, true, true, true, true, false, false, false] rfl rfl (by kernel_rfl) (fun _ _ _ h => h) (Or.inl ⟨by rfl, ?_⟩) hHeld ?_ ?_
            rotate_left
            · rintro w' ⟨s0, s1, s2, s3⟩
              go_simp
              with_reducible rfl
            rotate_left
            · simp only [Act.put, List.setIfInBounds_toArray, List.set_cons_zero, List.set_cons_succ, i64_w, i32_w]
              rfl
            refine take_ (i := 5) (N := some 46) (v := ?_) (a' := ?_) #[true, true, true, true, true, true, false, false] rfl rfl (by kernel_rfl) (fun _ _ _ h => h) (Or.inl ⟨by rfl, ?_⟩) hHeld ?_ ?_
            rotate_left
            · rintro w' ⟨s0, s1, s2, s3⟩
              go_simp
              with_reducible rfl
            rotate_left
            · simp only [Act.put, List.setIfInBounds_toArray, List.set_cons_zero, List.set_cons_succ, i64_w, i32_w]
              rfl
            refine one_ (i := 6) (N := some 47) #[true, true, true, true, true, true, true, false] rfl rfl (by kernel_rfl) (by decide) (fun K hK => ?_)
            refine goes_ Tryd.func66 (by kernel_rfl) rfl #[.string e.node, .agg #[.int .i64 f, .int .i64 t]] (by rfl) rfl rfl (by (try simp only [List.map_toArray, List.map_cons, List.map_nil]); first | done | rfl) ?_
            with_reducible refine (impl_made.calls e.node f t y _ hy).mono ?_
            rintro e1 W5 ⟨rfl, hb5⟩
            refine ⟨_, rfl, ?_⟩
            have hQ5 := hQ4.up hb5
            have hR5 := Kd.R_below hR4 hb5
            have hbx5 := blk_below hbx hb5
            have hcl5 := (hb5.cell (World.block_lt_of_cell? W4 _ hcl4)).trans hcl4
            clear hQ4 hR4 hbx hcl4 hb5 hHeld hQ HQ
            refine hK.out _ _ ⟨(blk_cell hQ5.p 0).trans rfl, hcl5, (blk_cell hbx5 0).trans rfl, (blk_cell hbx5 1).trans rfl⟩ (fun hHeld => ?_)
            clear hK K
            refine norm_ (a' := ?_) ?_ ?_
            rotate_left
            · show Act.put _ (some 47) _ = _
              simp only [Act.put, List.setIfInBounds_toArray, List.set_cons_zero, List.set_cons_succ, i64_w, i32_w]
              rfl
            refine pure_ (i := 7) (N := some 9) (v := ?_) (a' := ?_) #[true, true, true, true, true, true, true, true] rfl rfl (by kernel_rfl) (fun _ _ _ h => h) (Or.inl ⟨by rfl, ?_⟩) ?_ ?_
            rotate_left
            · intro w'
              go_simp
              with_reducible rfl
            rotate_left
            · simp only [Act.put, List.setIfInBounds_toArray, List.set_cons_zero, List.set_cons_succ, i64_w, i32_w]
              rfl
            refine done_ (by kernel_rfl) ?_
            obtain ⟨cl, hlook, hcl6⟩ := hQ5.m.look (T := 64) Tryd.underlying9 Tryd.underlying64 Tryd.underlying3 (by kernel_rfl) y (by unfold maxLen; omega)
            have hc50 := hHeld.1
            have hc51 : W5.cell? ⟨bp, 1, none⟩ = some (.map (some bm)) := (blk_cell hQ5.p 1).trans rfl
            cases hin : inN y (Bfs.nodes E1) with
            | true =>
              rw [if_pos hin] at hv
              have HV := Lib.hid hv
              rw [hin] at hlook
              clear hv hcl6 hHeld hcl5 hbx5 hbl hin hy
              go_wp2
              exact ⟨⟨j + 1, _, q2, q3, q4, E1, rfl, by omega, Aside0.mk hQ5, HE, HV, hei, Aside0.mk hR5, HN⟩, by simp [RowKit.intOf]; omega⟩
            | false =>
              rw [if_neg (by rw [hin]; decide)] at hv
              by_cases hb : E1.length < 1000000 ∧ e.dep < 1000000
              case neg => rw [if_neg hb] at hv; cases hv
              rw [if_pos hb] at hv
              have HV := Lib.hid hv
              rw [hin] at hlook
              obtain ⟨W6, hput, hm6, hg6⟩ := hQ5.m.put (T := 64) Tryd.underlying9 Tryd.underlying64 Tryd.underlying3 y (by unfold maxLen; omega) (by rw [nodes_len]; omega) (inN_no.1 hin)
              rw [nodes_len] at hput
              clear hv hcl6
              go_wp2_with fail
              have hQ6 := hQ5.put hg6 hm6
              have hbx6 := blk_grown hbx5 hg6 (fun e => by cases e; exact hQ5.m.ne_cells hbx5 rfl)
              have hR6 := R_grow flat_m hR5 hg6 (fun k hk e => R_ne_map hR5 hQ5.m (by rw [hk, e]))
              obtain ⟨g4, c4, hu4⟩ := R_form hQ6.r4 (by rw [List.length_map]; omega)
              rw [List.length_map] at hu4
              subst hu4
              have hdc := R_icell hQ6.r4 (i : Int) hpi (by omega)
              rw [Int.toNat_natCast, deps_rd hei.out] at hdc
              have hie0 : decide ((i : Int) < (E1.length : Int)) = true := decide_eq_true (by omega)
              refine start_ (n := 33) (S := fun w' => w'.cell? ⟨bp, 0, none⟩ = some (.slice (some ⟨g0', 0, none⟩) E1.length c0') ∧ w'.cell? ⟨bp, 2, none⟩ = some q2 ∧ w'.cell? ⟨bp, 3, none⟩ = some q3 ∧ w'.cell? ⟨bp, 4, none⟩ = some (.slice (some ⟨g4, 0, none⟩) E1.length c4) ∧ w'.cell? ⟨wr.heap.size, 0, none⟩ = some (.int .i64 f) ∧ w'.cell? ⟨wr.heap.size, 1, none⟩ = some (.int .i64 t) ∧ w'.cell? ⟨g4, i, none⟩ = some (.int .i64 (e.dep : Int))) (ds := [24, 26, 28, 30, 32]) #[false, false, false, false, false, false, false, false, false, false, false, false, false, false, false, false, false, false, false, false, false, false, false, false, false, false, false, false, false, false, false, false, false] (by kernel_rfl) rfl rfl ⟨(blk_cell hQ6.p 0).trans rfl, (blk_cell hQ6.p 2).trans rfl, (blk_cell hQ6.p 3).trans rfl, (blk_cell hQ6.p 4).trans rfl, (blk_cell hbx6 0).trans rfl, (blk_cell hbx6 1).trans rfl, hdc⟩ (fun hHeld => ?_)
              refine pure_ (i := 0) (N := some 62) (v := ?_) (a' := ?_) #[true, false, false, false, false, false, false, false, false, false, false, false, false, false, false, false, false, false, false, false, false, false, false, false, false, false, false, false, false, false, false, false, false] rfl rfl (by kernel_rfl) (fun _ _ _ h => h) (Or.inl ⟨by rfl, ?_⟩) ?_ ?_
              rotate_left
              · intro w'
                go_simp
                with_reducible rfl
              rotate_left
              · simp only [Act.put, List.setIfInBounds_toArray, List.set_cons_zero, List.set_cons_succ, i64_w, i32_w]
                rfl
              refine take_ (i := 1) (N := some 63) (v := ?_) (a' := ?_) #[true, true, false, false, false, false, false, false, false, false, false, false, false, false, false, false, false, false, false, false, false, false, false, false, false, false, false, false, false, false, false, false, false] rfl rfl (by kernel_rfl) (fun _ _ _ h => h) (Or.inl ⟨by rfl, ?_⟩) hHeld ?_ ?_
              rotate_left
              · rintro w' ⟨s0, s2, s3, s4, t0, t1, dd⟩
                go_simp
                with_reducible rfl
              rotate_left
              · simp only [Act.put, List.setIfInBounds_toArray, List.set_cons_zero, List.set_cons_succ, i64_w, i32_w]
                rfl
              refine pure_ (i := 2) (N := some 64) (v := ?_) (a' := ?_) #[true, true, true, false, false, false, false, false, false, false, false, false, false, false, false, false, false, false, false, false, false, false, false, false, false, false, false, false, false, false, false, false, false] rfl rfl (by kernel_rfl) (fun _ _ _ h => h) (Or.inl ⟨by rfl, ?_⟩) ?_ ?_
              rotate_left
              · intro w'
                go_simp
                with_reducible rfl
              rotate_left
              · simp only [Act.put, List.setIfInBounds_toArray, List.set_cons_zero, List.set_cons_succ, i64_w, i32_w]
                rfl
              refine pure_ (i := 5) (N := some 67) (v := ?_) (a' := ?_) #[true, true, true, false, false, true, false, false, false, false, false, false, false, false, false, false, false, false, false, false, false, false, false, false, false, false, false, false, false, false, false, false, false] rfl rfl (by kernel_rfl) (fun _ _ _ h => h) (Or.inl ⟨by rfl, ?_⟩) ?_ ?_
              rotate_left
              · intro w'
                go_simp
                with_reducible rfl
              rotate_left
              · simp only [Act.put, List.setIfInBounds_toArray, List.set_cons_zero, List.set_cons_succ, i64_w, i32_w]
                rfl
              refine take_ (i := 6) (N := some 68) (v := ?_) (a' := ?_) #[true, true, true, false, false, true, true, false, false, false, false, false, false, false, false, false, false, false, false, false, false, false, false, false, false, false, false, false, false, false, false, false, false] rfl rfl (by kernel_rfl) (fun _ _ _ h => h) (Or.inl ⟨by rfl, ?_⟩) hHeld ?_ ?_
              rotate_left
              · rintro w' ⟨s0, s2, s3, s4, t0, t1, dd⟩
                go_simp
                with_reducible rfl
              rotate_left
              · simp only [Act.put, List.setIfInBounds_toArray, List.set_cons_zero, List.set_cons_succ, i64_w, i32_w]
                rfl
              refine pure_ (i := 7) (N := some 69) (v := ?_) (a' := ?_) #[true, true, true, false, false, true, true, true, false, false, false, false, false, false, false, false, false, false, false, false, false, false, false, false, false, false, false, false, false, false, false, false, false] rfl rfl (by kernel_rfl) (fun _ _ _ h => h) (Or.inl ⟨by rfl, ?_⟩) ?_ ?_
              rotate_left
              · intro w'
                go_simp
                with_reducible rfl
              rotate_left
              · simp only [Act.put, List.setIfInBounds_toArray, List.set_cons_zero, List.set_cons_succ, i64_w, i32_w]
                rfl
              refine pure_ (i := 10) (N := some 72) (v := ?_) (a' := ?_) #[true, true, true, false, false, true, true, true, false, false, true, false, false, false, false, false, false, false, false, false, false, false, false, false, false, false, false, false, false, false, false, false, false] rfl rfl (by kernel_rfl) (fun _ _ _ h => h) (Or.inl ⟨by rfl, ?_⟩) ?_ ?_
              rotate_left
              · intro w'
                go_simp
                with_reducible rfl
              rotate_left
              · simp only [Act.put, List.setIfInBounds_toArray, List.set_cons_zero, List.set_cons_succ, i64_w, i32_w]
                rfl
              refine take_ (i := 11) (N := some 73) (v := ?_) (a' := ?_) #[true, true, true, false, false, true, true, true, false, false, true, true, false, false, false, false, false, false, false, false, false, false, false, false, false, false, false, false, false, false, false, false, false] rfl rfl (by kernel_rfl) (fun _ _ _ h => h) (Or.inl ⟨by rfl, ?_⟩) hHeld ?_ ?_
              rotate_left
              · rintro w' ⟨s0, s2, s3, s4, t0, t1, dd⟩
                go_simp
                with_reducible rfl
              rotate_left
              · simp only [Act.put, List.setIfInBounds_toArray, List.set_cons_zero, List.set_cons_succ, i64_w, i32_w]
                rfl
              refine take_ (i := 12) (N := some 74) (v := ?_) (a' := ?_) #[true, true, true, false, false, true, true, true, false, false, true, true, true, false, false, false, false, false, false, false, false, false, false, false, false, false, false, false, false, false, false, false, false] rfl rfl (by kernel_rfl) (fun _ _ _ h => h) (Or.inl ⟨by rfl, ?_⟩) hHeld ?_ ?_
              rotate_left
              · rintro w' ⟨s0, s2, s3, s4, t0, t1, dd⟩
                go_simp
                with_reducible rfl
              rotate_left
              · simp only [Act.put, List.setIfInBounds_toArray, List.set_cons_zero, List.set_cons_succ, i64_w, i32_w]
                rfl
              refine pure_ (i := 15) (N := some 77) (v := ?_) (a' := ?_) #[true, true, true, false, false, true, true, true, false, false, true, true, true, false, false, true, false, false, false, false, false, false, false, false, false, false, false, false, false, false, false, false, false] rfl rfl (by kernel_rfl) (fun _ _ _ h => h) (Or.inl ⟨by rfl, ?_⟩) ?_ ?_
              rotate_left
              · intro w'
                go_simp
                with_reducible rfl
              rotate_left
              · simp only [Act.put, List.setIfInBounds_toArray, List.set_cons_zero, List.set_cons_succ, i64_w, i32_w]
                rfl
              refine take_ (i := 16) (N := some 78) (v := ?_) (a' := ?_) #[true, true, true, false, false, true, true, true, false, false, true, true, true, false, false, true, true, false, false, false, false, false, false, false, false, false, false, false, false, false, false, false, false] rfl rfl (by kernel_rfl) (fun _ _ _ h => h) (Or.inl ⟨by rfl, ?_⟩) hHeld ?_ ?_
              rotate_left
              · rintro w' ⟨s0, s2, s3, s4, t0, t1, dd⟩
                go_simp
                with_reducible rfl
              rotate_left
              · simp only [Act.put, List.setIfInBounds_toArray, List.set_cons_zero, List.set_cons_succ, i64_w, i32_w]
                rfl
              refine pure_ (i := 17) (N := some 79) (v := ?_) (a' := ?_) #[true, true, true, false, false, true, true, true, false, false, true, true, true, false, false, true, true, true, false, false, false, false, false, false, false, false, false, false, false, false, false, false, false] rfl rfl (by kernel_rfl) (fun _ _ _ h => h) (Or.inl ⟨by rfl, ?_⟩) ?_ ?_
              rotate_left
              · intro w'
                go_simp
                with_reducible rfl
              rotate_left
              · simp only [Act.put, List.setIfInBounds_toArray, List.set_cons_zero, List.set_cons_succ, i64_w, i32_w]
                rfl
              refine take_ (i := 18) (N := some 80) (v := ?_) (a' := ?_) #[true, true, true, false, false, true, true, true, false, false, true, true, true, false, false, true, true, true, true, false, false, false, false, false, false, false, false, false, false, false, false, false, false] rfl rfl (by kernel_rfl) (fun _ _ _ h => h) (Or.inl ⟨by rfl, ?_⟩) hHeld ?_ ?_
              rotate_left
              · rintro w' ⟨s0, s2, s3, s4, t0, t1, dd⟩
                go_simp
                with_reducible rfl
              rotate_left
              · simp only [Act.put, List.setIfInBounds_toArray, List.set_cons_zero, List.set_cons_succ, i64_w, i32_w]
                rfl
              refine pure_ (i := 19) (N := some 81) (v := ?_) (a' := ?_) #[true, true, true, false, false, true, true, true, false, false, true, true, true, false, false, true, true, true, true, true, false, false, false, false, false, false, false, false, false, false, false, false, false] rfl rfl (by kernel_rfl) (fun _ _ _ h => h) (Or.inl ⟨by rfl, ?_⟩) ?_ ?_
              rotate_left
              · intro w'
                go_simp
                with_reducible rfl
              rotate_left
              · simp only [Act.put, List.setIfInBounds_toArray, List.set_cons_zero, List.set_cons_succ, i64_w, i32_w]
                rfl
              refine pure_ (i := 20) (N := some 82) (v := ?_) (a' := ?_) #[true, true, true, false, false, true, true, true, false, false, true, true, true, false, false, true, true, true, true, true, true, false, false, false, false, false, false, false, false, false, false, false, false] rfl rfl (by kernel_rfl) (fun _ _ _ h => h) (Or.inl ⟨by rfl, ?_⟩) ?_ ?_
              rotate_left
              · intro w'
                go_simp
                with_reducible rfl
              rotate_left
              · simp only [Act.put, List.setIfInBounds_toArray, List.set_cons_zero, List.set_cons_succ, i64_w, i32_w]
                rfl
              refine take_ (i := 21) (N := some 83) (v := ?_) (a' := ?_) #[true, true, true, false, false, true, true, true, false, false, true, true, true, false, false, true, true, true, true, true, true, true, false, false, false, false, false, false, false, false, false, false, false] rfl rfl (by kernel_rfl) (fun _ _ _ h => h) (Or.inl ⟨by rfl, ?_⟩) hHeld ?_ ?_
              rotate_left
              · rintro w' ⟨s0, s2, s3, s4, t0, t1, dd⟩
                go_simp
                with_reducible rfl
              rotate_left
              · simp only [Act.put, List.setIfInBounds_toArray, List.set_cons_zero, List.set_cons_succ, i64_w, i32_w]
                rfl
              refine pure_ (i := 22) (N := some 84) (v := ?_) (a' := ?_) #[true, true, true, false, false, true, true, true, false, false, true, true, true, false, false, true, true, true, true, true, true, true, true, false, false, false, false, false, false, false, false, false, false] rfl rfl (by kernel_rfl) (fun _ _ _ h => h) (Or.inl ⟨by rfl, ?_⟩) ?_ ?_
              rotate_left
              · intro w'
                go_simp
                with_reducible rfl
              rotate_left
              · simp only [Act.put, List.setIfInBounds_toArray, List.set_cons_zero, List.set_cons_succ, i64_w, i32_w]
                rfl
              have hQ7 := hQ6.up (below_drew1 (Below.refl W6.heap.size W6))
              have hbx7 : W6.drew.heap[wr.heap.size]? = some (.cells #[.int .i64 f, .int .i64 t] 83 (0, 0)) := hbx6
              have hR7 := Kd.R_below hR6 (below_drew1 (Below.refl W6.heap.size W6))
              have hG0 : ∀ x1 x2 x3 x4 x5 x6 x7 x8, Rg w bp bm wr.heap.size (.slice (some ⟨g0', 0, none⟩) E1.length c0') q2 q3 (.slice (some ⟨g4, 0, none⟩) E1.length c4) (.slice (some ⟨gm, 0, none⟩) ms.length cm) (Bfs.nodes E1 ++ [y]) E1 ms y i f t (e.dep + 1) false false false false 0 x1 x2 x3 x4 x5 x6 x7 x8 (.slice (some ⟨g0', 0, none⟩) E1.length c0') q2 q3 (.slice (some ⟨g4, 0, none⟩) E1.length c4) W6.drew := fun x1 x2 x3 x4 x5 x6 x7 x8 => by
                have l0 : 0 < (Bfs.nodes E1).length := by rw [nodes_len]; omega
                have l2 : 0 < (E1.map (·.par)).length := by rw [List.length_map]; omega
                have l3 : 0 < (E1.map (·.mov)).length := by rw [List.length_map]; omega
                have mk : ∀ g t cs, W6.drew.heap[g]? = some (.cells cs t (0, 0)) → 9 ≠ t → 3 ≠ t → 83 ≠ t → Off W6.drew (.slice (some ⟨g0', 0, none⟩) E1.length c0') q2 q3 (.slice (some ⟨g4, 0, none⟩) E1.length c4) g := fun g t cs hb h9 h3 hm => ⟨blk_lt hb, Kd.R_ne hQ7.r0 hb h9, Kd.R_ne hQ7.r2 hb h3, Kd.R_ne hQ7.r3 hb hm, Kd.R_ne hQ7.r4 hb h3⟩
                obtain ⟨inm, hom⟩ := Kd.R_own hR7
                obtain ⟨csm, hbm⟩ := own_typed hom gm rfl
                obtain ⟨esm, clm, hmb⟩ := hQ7.m.block
                exact ⟨hQ7.B, hQ7.res, hQ7.p, hQ7.lt, hQ7.lm, hQ7.m, hbx7, hR7,
                  fun g hg => by
                    obtain rfl : gm = g := by simpa [Value.ownBlock] using hg
                    exact ⟨blk_lt hbm, Kd.R_ne hQ7.r0 hbm (by decide), Kd.R_ne hQ7.r2 hbm (by decide), HN.out gm rfl, Kd.R_ne hQ7.r4 hbm (by decide)⟩,
                  mk _ _ _ hQ7.res (by decide) (by decide) (by decide), mk _ _ _ hQ7.p (by decide) (by decide) (by decide),
                  ⟨blk_lt hmb, R_ne_map hQ7.r0 hQ7.m, R_ne_map hQ7.r2 hQ7.m, R_ne_map hQ7.r3 hQ7.m, R_ne_map hQ7.r4 hQ7.m⟩,
                  ⟨blk_lt hbx7, Kd.R_ne hQ7.r0 hbx7 (by decide), Kd.R_ne hQ7.r2 hbx7 (by decide), fun e' => by have := hbl _ e'.symm; omega, Kd.R_ne hQ7.r4 hbx7 (by decide)⟩,
                  R_sep hQ7.r0 hQ7.r2 l0 (by decide), R_sep hQ7.r0 hQ7.r3 l0 (by decide), R_sep hQ7.r0 hQ7.r4 l0 (by decide), R_sep hQ7.r2 hQ7.r3 l2 (by decide), hQ7.ne, R_sep hQ7.r3 hQ7.r4 l3 (by decide),
                  rfl, by have := hQ7.r0; simpa using this, fun h => (by cases h), rfl, by have := hQ7.r2; simpa using this, fun h => (by cases h), rfl, by have := hQ7.r3; simpa using this, fun h => (by cases h), rfl, by have := hQ7.r4; simpa using this, fun h => (by cases h)⟩
              clear hQ7 hbx7 hR7 hQ6 hbx6 hR6 hQ5 hbx5 hR5 hHeld hlook hput hg6 hm6 hc50 hc51 hcl5 hdc hbl HN
              have hlb := hb
              have hwd : wrap64 ((e.dep : Int) + 1) = (e.dep : Int) + 1 := by unfold wrap64; omega
              have hlen1 := HE.out.len
              refine name_act (fun a1 ha1 => ?_)
              refine explore_ all4 L4 nx4 rk4 (by kernel_rfl) (fun s a w' => ∃ x65 x66 x70 x71 x75 x76 x85 x86 x87 u0 u2 u3 u4, a = putAll a1 [(65, x65), (66, x66), (70, x70), (71, x71), (75, x75), (76, x76), (85, x85), (86, x86), (87, x87)] ∧ (s.2.2.2.2.1 = true → x87 = .pointer (some ⟨bp, 0, none⟩)) ∧ Rg w bp bm wr.heap.size (.slice (some ⟨g0', 0, none⟩) E1.length c0') q2 q3 (.slice (some ⟨g4, 0, none⟩) E1.length c4) (.slice (some ⟨gm, 0, none⟩) ms.length cm) (Bfs.nodes E1 ++ [y]) E1 ms y i f t (e.dep + 1) s.1 s.2.1 s.2.2.1 s.2.2.2.1 s.2.2.2.2.2 x65 x66 x70 x71 x75 x76 x85 x86 u0 u2 u3 u4 w') 7 ?hstep ?hend 9 (false, false, false, false, false, 0) a1 W6.drew (by decide +kernel) rfl ⟨a1.tmps.getD 65 undef, a1.tmps.getD 66 undef, a1.tmps.getD 70 undef, a1.tmps.getD 71 undef, a1.tmps.getD 75 undef, a1.tmps.getD 76 undef, a1.tmps.getD 85 undef, a1.tmps.getD 86 undef, a1.tmps.getD 87 undef, _, _, _, _, by subst ha1; simp only [putAll, Act.put, List.setIfInBounds_toArray, List.set_cons_zero, List.set_cons_succ]; rfl, fun h => (by cases h), hG0 _ _ _ _ _ _ _ _⟩
              case hstep =>
                clear hG0
                rintro ⟨b1, b2, b3, b4, b5, k⟩ a w' hs hR p hp
                simp only [nx4, List.mem_append] at hp
                rcases hp with ((((((((hp | hp) | hp) | hp) | hp) | hp) | hp) | hp) | hp)
                · split at hp
                  case isFalse => cases hp
                  rename_i hcd
                  rw [List.mem_singleton] at hp
                  subst hp
                  subst hcd
                  obtain ⟨x65, x66, x70, x71, x75, x76, x85, x86, x87, u0, u2, u3, u4, rfl, h5, hG⟩ := hR
                  subst ha1
                  refine norm_op (a' := ?_) ?_ ?_
                  rotate_left
                  · simp only [putAll, Act.put, List.setIfInBounds_toArray, List.set_cons_zero, List.set_cons_succ]
                    rfl
                  refine wpOp_step rfl (fun K' hK => ?_)
                  refine event_step (by rfl) (v := .slice (some ⟨w'.heap.size, 0, none⟩) 1 1) (w1 := w'.alloc (.cells #[.string y] 9 (0, 0))) ?_ ?_
                  · first | (go_simp; done) | (go_simp; rfl)
                  · exact hK _ _ ⟨⟨(.slice (some ⟨w'.heap.size, 0, none⟩) 1 1), x66, x70, x71, x75, x76, x85, x86, x87, u0, u2, u3, u4, by show Act.put _ (some 65) _ = _; simp only [putAll, Act.put, List.setIfInBounds_toArray, List.set_cons_zero, List.set_cons_succ], h5, hG.build1⟩, fun _ ⟨s0, s2, s3, s4, t0, t1, dd⟩ => have hga := World.grownBy_alloc w' (.cells #[.string y] 9 (0, 0)) none; ⟨cell_grow hga s0 (by simp), cell_grow hga s2 (by simp), cell_grow hga s3 (by simp), cell_grow hga s4 (by simp), cell_grow hga t0 (by simp), cell_grow hga t1 (by simp), cell_grow hga dd (by simp)⟩⟩
                · split at hp
                  case isFalse => cases hp
                  rename_i hcd
                  rw [List.mem_singleton] at hp
                  subst hp
                  obtain ⟨hcb, hck⟩ := hcd
                  subst hcb
                  subst hck
                  obtain ⟨x65, x66, x70, x71, x75, x76, x85, x86, x87, u0, u2, u3, u4, rfl, h5, hG⟩ := hR
                  subst ha1
                  obtain ⟨gx, hx, hbk, hoff⟩ := hG.c0 rfl (Nat.lt_succ_self 0)
                  obtain rfl : u0 = (.slice (some ⟨g0', 0, none⟩) E1.length c0') := hG.e0
                  obtain rfl : u4 = (.slice (some ⟨g4, 0, none⟩) E1.length c4) := hG.e3
                  subst hx
                  refine norm_op (a' := ?_) ?_ ?_
                  rotate_left
                  · simp only [putAll, Act.put, List.setIfInBounds_toArray, List.set_cons_zero, List.set_cons_succ]
                    rfl
                  refine wpOp_step rfl (fun K' hK => ?_)
                  refine Kd.R_append_rows_step Kd.string (w0 := w) (Rr := fun x cs => cs = [.string x]) w.heap.size (by rfl) (.tmp 63) (.tmp 65) 22 9 (.string ByteArray.empty) 16 rfl Tryd.underlying22 (by kernel_rfl) rfl (by decide) (by decide) (.slice (some ⟨g0', 0, none⟩) E1.length c0') (Bfs.nodes E1) [y] (some ⟨gx, 0, none⟩) 1 1 T_ (fun _ => False) (by rfl) (by rfl) (by have := hG.r0; simpa using this) (reads_one hbk rfl rfl) (fun _ _ h => h) (fun _ h => h.elim) (fun _ _ => trivial) hG.B hG.B.size (by rw [nodes_len]; omega) ?_
                  intro u' w1 hr' hB' hg hat
                  exact hK _ _ ⟨⟨(.slice (some ⟨gx, 0, none⟩) 1 1), u', x70, x71, x75, x76, x85, x86, x87, u', u2, u3, _, by show Act.put _ (some 66) _ = _; simp only [putAll, Act.put, List.setIfInBounds_toArray, List.set_cons_zero, List.set_cons_succ], h5, hG.app1 hr' hB' hg hat⟩, fun _ ⟨s0, s2, s3, s4, t0, t1, dd⟩ => ⟨cell_grow hg s0 hG.o2.o0, cell_grow hg s2 hG.o2.o0, cell_grow hg s3 hG.o2.o0, cell_grow hg s4 hG.o2.o0, cell_grow hg t0 hG.o4.o0, cell_grow hg t1 hG.o4.o0, cell_grow hg dd (fun e' => hG.s03 (by rw [← e']; rfl))⟩⟩
                · split at hp
                  case isFalse => cases hp
                  rename_i hcd
                  rw [List.mem_singleton] at hp
                  subst hp
                  subst hcd
                  obtain ⟨x65, x66, x70, x71, x75, x76, x85, x86, x87, u0, u2, u3, u4, rfl, h5, hG⟩ := hR
                  subst ha1
                  refine norm_op (a' := ?_) ?_ ?_
                  rotate_left
                  · simp only [putAll, Act.put, List.setIfInBounds_toArray, List.set_cons_zero, List.set_cons_succ]
                    rfl
                  refine wpOp_step rfl (fun K' hK => ?_)
                  refine event_step (by rfl) (v := .slice (some ⟨w'.heap.size, 0, none⟩) 1 1) (w1 := w'.alloc (.cells #[.int .i64 (i : Int)] 3 (0, 0))) ?_ ?_
                  · first | (go_simp; done) | (go_simp; rfl)
                  · exact hK _ _ ⟨⟨x65, x66, (.slice (some ⟨w'.heap.size, 0, none⟩) 1 1), x71, x75, x76, x85, x86, x87, u0, u2, u3, u4, by show Act.put _ (some 70) _ = _; simp only [putAll, Act.put, List.setIfInBounds_toArray, List.set_cons_zero, List.set_cons_succ], h5, hG.build2⟩, fun _ ⟨s0, s2, s3, s4, t0, t1, dd⟩ => have hga := World.grownBy_alloc w' (.cells #[.int .i64 (i : Int)] 3 (0, 0)) none; ⟨cell_grow hga s0 (by simp), cell_grow hga s2 (by simp), cell_grow hga s3 (by simp), cell_grow hga s4 (by simp), cell_grow hga t0 (by simp), cell_grow hga t1 (by simp), cell_grow hga dd (by simp)⟩⟩
                · split at hp
                  case isFalse => cases hp
                  rename_i hcd
                  rw [List.mem_singleton] at hp
                  subst hp
                  obtain ⟨hcb, hck⟩ := hcd
                  subst hcb
                  subst hck
                  obtain ⟨x65, x66, x70, x71, x75, x76, x85, x86, x87, u0, u2, u3, u4, rfl, h5, hG⟩ := hR
                  subst ha1
                  obtain ⟨gx, hx, hbk, hoff⟩ := hG.c1 rfl (Nat.lt_succ_self 1)
                  obtain rfl : u2 = q2 := hG.e1
                  obtain rfl : u4 = (.slice (some ⟨g4, 0, none⟩) E1.length c4) := hG.e3
                  subst hx
                  refine norm_op (a' := ?_) ?_ ?_
                  rotate_left
                  · simp only [putAll, Act.put, List.setIfInBounds_toArray, List.set_cons_zero, List.set_cons_succ]
                    rfl
                  refine wpOp_step rfl (fun K' hK => ?_)
                  refine Kd.R_append_rows_step (Kd.int .i64) (w0 := w) (Rr := fun x cs => cs = [.int .i64 x]) w.heap.size (by rfl) (.tmp 68) (.tmp 70) 65 3 (.int .i64 0) 8 rfl Tryd.underlying65 (by kernel_rfl) rfl (by decide) (by decide) u2 (E1.map (·.par)) [(i : Int)] (some ⟨gx, 0, none⟩) 1 1 T_ (fun _ => False) (by rfl) (by rfl) (by have := hG.r1; simpa using this) (reads_one hbk rfl rfl) (fun _ _ h => h) (fun _ h => h.elim) (fun _ _ => trivial) hG.B hG.B.size (by rw [List.length_map]; omega) ?_
                  intro u' w1 hr' hB' hg hat
                  exact hK _ _ ⟨⟨x65, x66, (.slice (some ⟨gx, 0, none⟩) 1 1), u', x75, x76, x85, x86, x87, u0, u', u3, _, by show Act.put _ (some 71) _ = _; simp only [putAll, Act.put, List.setIfInBounds_toArray, List.set_cons_zero, List.set_cons_succ], h5, hG.app2 hr' hB' hg hat⟩, fun _ ⟨s0, s2, s3, s4, t0, t1, dd⟩ => ⟨cell_grow hg s0 hG.o2.o2, cell_grow hg s2 hG.o2.o2, cell_grow hg s3 hG.o2.o2, cell_grow hg s4 hG.o2.o2, cell_grow hg t0 hG.o4.o2, cell_grow hg t1 hG.o4.o2, cell_grow hg dd (fun e' => hG.s13 (by rw [← e']; rfl))⟩⟩
                · split at hp
                  case isFalse => cases hp
                  rename_i hcd
                  rw [List.mem_singleton] at hp
                  subst hp
                  subst hcd
                  obtain ⟨x65, x66, x70, x71, x75, x76, x85, x86, x87, u0, u2, u3, u4, rfl, h5, hG⟩ := hR
                  subst ha1
                  refine norm_op (a' := ?_) ?_ ?_
                  rotate_left
                  · simp only [putAll, Act.put, List.setIfInBounds_toArray, List.set_cons_zero, List.set_cons_succ]
                    rfl
                  refine wpOp_step rfl (fun K' hK => ?_)
                  refine event_step (by rfl) (v := .slice (some ⟨w'.heap.size, 0, none⟩) 1 1) (w1 := w'.alloc (.cells #[.int .i64 f, .int .i64 t] 83 (0, 0))) ?_ ?_
                  · first | (go_simp; done) | (go_simp; rfl)
                  · exact hK _ _ ⟨⟨x65, x66, x70, x71, (.slice (some ⟨w'.heap.size, 0, none⟩) 1 1), x76, x85, x86, x87, u0, u2, u3, u4, by show Act.put _ (some 75) _ = _; simp only [putAll, Act.put, List.setIfInBounds_toArray, List.set_cons_zero, List.set_cons_succ], h5, hG.build3⟩, fun _ ⟨s0, s2, s3, s4, t0, t1, dd⟩ => have hga := World.grownBy_alloc w' (.cells #[.int .i64 f, .int .i64 t] 83 (0, 0)) none; ⟨cell_grow hga s0 (by simp), cell_grow hga s2 (by simp), cell_grow hga s3 (by simp), cell_grow hga s4 (by simp), cell_grow hga t0 (by simp), cell_grow hga t1 (by simp), cell_grow hga dd (by simp)⟩⟩
                · split at hp
                  case isFalse => cases hp
                  rename_i hcd
                  rw [List.mem_singleton] at hp
                  subst hp
                  obtain ⟨hcb, hck⟩ := hcd
                  subst hcb
                  subst hck
                  obtain ⟨x65, x66, x70, x71, x75, x76, x85, x86, x87, u0, u2, u3, u4, rfl, h5, hG⟩ := hR
                  subst ha1
                  obtain ⟨gx, hx, hbk, hoff⟩ := hG.c2 rfl (Nat.lt_succ_self 2)
                  obtain rfl : u3 = q3 := hG.e2
                  obtain rfl : u4 = (.slice (some ⟨g4, 0, none⟩) E1.length c4) := hG.e3
                  subst hx
                  refine norm_op (a' := ?_) ?_ ?_
                  rotate_left
                  · simp only [putAll, Act.put, List.setIfInBounds_toArray, List.set_cons_zero, List.set_cons_succ]
                    rfl
                  refine wpOp_step rfl (fun K' hK => ?_)
                  refine Kd.R_append_rows_step k83 (w0 := w) (Rr := fun x cs => cs = [.int .i64 x.f0, .int .i64 x.f1]) w.heap.size (by rfl) (.tmp 73) (.tmp 75) 46 83 (.agg #[.int .i64 0, .int .i64 0]) 16 rfl Tryd.underlying46 (by kernel_rfl) rfl (by decide) (by decide) u3 (E1.map (·.mov)) [⟨f, t⟩] (some ⟨gx, 0, none⟩) 1 1 T_ (fun _ => False) (by rfl) (by rfl) (by have := hG.r2; simpa using this) (reads_one hbk rfl rfl) (fun x cs h => by rw [h]; exact k83_mkM _ _ _ x) (fun _ h => h.elim) (fun _ _ => trivial) hG.B hG.B.size (by rw [List.length_map]; omega) ?_
                  intro u' w1 hr' hB' hg hat
                  exact hK _ _ ⟨⟨x65, x66, x70, x71, (.slice (some ⟨gx, 0, none⟩) 1 1), u', x85, x86, x87, u0, u2, u', _, by show Act.put _ (some 76) _ = _; simp only [putAll, Act.put, List.setIfInBounds_toArray, List.set_cons_zero, List.set_cons_succ], h5, hG.app3 hr' hB' hg hat⟩, fun _ ⟨s0, s2, s3, s4, t0, t1, dd⟩ => ⟨cell_grow hg s0 hG.o2.o3, cell_grow hg s2 hG.o2.o3, cell_grow hg s3 hG.o2.o3, cell_grow hg s4 hG.o2.o3, cell_grow hg t0 hG.o4.o3, cell_grow hg t1 hG.o4.o3, cell_grow hg dd (fun e' => hG.s23 (by rw [← e']; rfl))⟩⟩
                · split at hp
                  case isFalse => cases hp
                  rename_i hcd
                  rw [List.mem_singleton] at hp
                  subst hp
                  subst hcd
                  obtain ⟨x65, x66, x70, x71, x75, x76, x85, x86, x87, u0, u2, u3, u4, rfl, h5, hG⟩ := hR
                  subst ha1
                  refine norm_op (a' := ?_) ?_ ?_
                  rotate_left
                  · simp only [putAll, Act.put, List.setIfInBounds_toArray, List.set_cons_zero, List.set_cons_succ]
                    rfl
                  refine wpOp_step rfl (fun K' hK => ?_)
                  refine event_step (by rfl) (v := .slice (some ⟨w'.heap.size, 0, none⟩) 1 1) (w1 := w'.alloc (.cells #[.int .i64 ((e.dep + 1 : Nat) : Int)] 3 (0, 0))) ?_ ?_
                  · first | (go_simp; done) | (go_simp; rfl) | (go_simp; rw [hwd])
                  · exact hK _ _ ⟨⟨x65, x66, x70, x71, x75, x76, (.slice (some ⟨w'.heap.size, 0, none⟩) 1 1), x86, x87, u0, u2, u3, u4, by show Act.put _ (some 85) _ = _; simp only [putAll, Act.put, List.setIfInBounds_toArray, List.set_cons_zero, List.set_cons_succ], h5, hG.build4⟩, fun _ ⟨s0, s2, s3, s4, t0, t1, dd⟩ => have hga := World.grownBy_alloc w' (.cells #[.int .i64 ((e.dep + 1 : Nat) : Int)] 3 (0, 0)) none; ⟨cell_grow hga s0 (by simp), cell_grow hga s2 (by simp), cell_grow hga s3 (by simp), cell_grow hga s4 (by simp), cell_grow hga t0 (by simp), cell_grow hga t1 (by simp), cell_grow hga dd (by simp)⟩⟩
                · split at hp
                  case isFalse => cases hp
                  rename_i hcd
                  rw [List.mem_singleton] at hp
                  subst hp
                  obtain ⟨hcb, hck⟩ := hcd
                  subst hcb
                  subst hck
                  obtain ⟨x65, x66, x70, x71, x75, x76, x85, x86, x87, u0, u2, u3, u4, rfl, h5, hG⟩ := hR
                  subst ha1
                  obtain ⟨gx, hx, hbk, hoff⟩ := hG.c3 rfl (Nat.lt_succ_self 3)
                  obtain rfl : u4 = (.slice (some ⟨g4, 0, none⟩) E1.length c4) := hG.e3
                  subst hx
                  refine norm_op (a' := ?_) ?_ ?_
                  rotate_left
                  · simp only [putAll, Act.put, List.setIfInBounds_toArray, List.set_cons_zero, List.set_cons_succ]
                    rfl
                  refine wpOp_step rfl (fun K' hK => ?_)
                  refine Kd.R_append_rows_step (Kd.int .i64) (w0 := w) (Rr := fun x cs => cs = [.int .i64 x]) w.heap.size (by rfl) (.tmp 78) (.tmp 85) 65 3 (.int .i64 0) 8 rfl Tryd.underlying65 (by kernel_rfl) rfl (by decide) (by decide) (.slice (some ⟨g4, 0, none⟩) E1.length c4) (E1.map fun e => (e.dep : Int)) [((e.dep + 1 : Nat) : Int)] (some ⟨gx, 0, none⟩) 1 1 T_ (fun _ => False) (by rfl) (by rfl) (by have := hG.r3; simpa using this) (reads_one hbk rfl rfl) (fun _ _ h => h) (fun _ h => h.elim) (fun _ _ => trivial) hG.B hG.B.size (by rw [List.length_map]; omega) ?_
                  intro u' w1 hr' hB' hg hat
                  exact hK _ _ ⟨⟨x65, x66, x70, x71, x75, x76, (.slice (some ⟨gx, 0, none⟩) 1 1), u', x87, u0, u2, u3, u', by show Act.put _ (some 86) _ = _; simp only [putAll, Act.put, List.setIfInBounds_toArray, List.set_cons_zero, List.set_cons_succ], h5, hG.app4 hr' hB' hg hat⟩, fun hd => absurd (show 24 ∈ [24, 26, 28, 30, 32] by decide) hd⟩
                · split at hp
                  case isFalse => cases hp
                  rename_i hcd
                  rw [List.mem_singleton] at hp
                  subst hp
                  obtain ⟨hck, hcb⟩ := hcd
                  subst hcb
                  obtain ⟨x65, x66, x70, x71, x75, x76, x85, x86, x87, u0, u2, u3, u4, rfl, h5, hG⟩ := hR
                  subst ha1
                  refine norm_op (a' := ?_) ?_ ?_
                  rotate_left
                  · simp only [putAll, Act.put, List.setIfInBounds_toArray, List.set_cons_zero, List.set_cons_succ]
                    rfl
                  refine wpOp_step rfl (fun K' hK => ?_)
                  refine event_step (by rfl) (v := .pointer (some ⟨bp, 0, none⟩)) (w1 := w') ?_ ?_
                  · first | (go_simp; done) | (go_simp; rfl)
                  · exact hK _ _ ⟨⟨x65, x66, x70, x71, x75, x76, x85, x86, _, u0, u2, u3, u4, by show Act.put _ (some 87) _ = _; simp only [putAll, Act.put, List.setIfInBounds_toArray, List.set_cons_zero, List.set_cons_succ], fun _ => rfl, hG⟩, fun _ h => h⟩
              case hend =>
                clear hG0
                rintro s a w' hs hrk hR
                obtain rfl := end4 hs hrk
                obtain ⟨x65, x66, x70, x71, x75, x76, x85, x86, x87, u0, u2, u3, u4, rfl, h5, hG⟩ := hR
                subst ha1
                obtain rfl := h5 rfl
                obtain rfl : u0 = x66 := hG.e0
                obtain rfl : u2 = x71 := hG.e1
                obtain rfl : u3 = x76 := hG.e2
                obtain rfl : u4 = x86 := hG.e3
                obtain ⟨A0, n0, k0, z0⟩ := R_any hG.r0
                subst z0
                obtain ⟨A1, n1, k1, z1⟩ := R_any hG.r1
                subst z1
                obtain ⟨A2, n2, k2, z2⟩ := R_any hG.r2
                subst z2
                obtain ⟨A3, n3, k3, z3⟩ := R_any hG.r3
                subst z3
                obtain ⟨hPn, hRn, hNn⟩ := hG.stored
                have p1 : (w'.setCell ⟨bp, 0, none⟩ (.slice A0 n0 k0)).heap[bp]? = some (.cells #[(.slice A0 n0 k0), .map (some bm), q2, q3, (.slice (some ⟨g4, 0, none⟩) E1.length c4)] 67 (0, 0)) := blk_put hG.p 0 (.slice A0 n0 k0) rfl
                have p2 : ((w'.setCell ⟨bp, 0, none⟩ (.slice A0 n0 k0)).setCell ⟨bp, 2, none⟩ (.slice A1 n1 k1)).heap[bp]? = some (.cells #[(.slice A0 n0 k0), .map (some bm), (.slice A1 n1 k1), q3, (.slice (some ⟨g4, 0, none⟩) E1.length c4)] 67 (0, 0)) := blk_put p1 2 (.slice A1 n1 k1) rfl
                have p3 : (((w'.setCell ⟨bp, 0, none⟩ (.slice A0 n0 k0)).setCell ⟨bp, 2, none⟩ (.slice A1 n1 k1)).setCell ⟨bp, 3, none⟩ (.slice A2 n2 k2)).heap[bp]? = some (.cells #[(.slice A0 n0 k0), .map (some bm), (.slice A1 n1 k1), (.slice A2 n2 k2), (.slice (some ⟨g4, 0, none⟩) E1.length c4)] 67 (0, 0)) := blk_put p2 3 (.slice A2 n2 k2) rfl
                have d0 : w'.cell? ⟨bp, 0, none⟩ = some (.slice (some ⟨g0', 0, none⟩) E1.length c0') := (blk_cell hG.p 0).trans rfl
                have d2 : (w'.setCell ⟨bp, 0, none⟩ (.slice A0 n0 k0)).cell? ⟨bp, 2, none⟩ = some q2 := (blk_cell p1 2).trans rfl
                have d3 : ((w'.setCell ⟨bp, 0, none⟩ (.slice A0 n0 k0)).setCell ⟨bp, 2, none⟩ (.slice A1 n1 k1)).cell? ⟨bp, 3, none⟩ = some q3 := (blk_cell p2 3).trans rfl
                have d4 : (((w'.setCell ⟨bp, 0, none⟩ (.slice A0 n0 k0)).setCell ⟨bp, 2, none⟩ (.slice A1 n1 k1)).setCell ⟨bp, 3, none⟩ (.slice A2 n2 k2)).cell? ⟨bp, 4, none⟩ = some (.slice (some ⟨g4, 0, none⟩) E1.length c4) := (blk_cell p3 4).trans rfl
                have f0 := blk_frozen hG.p 0
                have f2 := blk_frozen p1 2
                have f3 := blk_frozen p2 3
                have f4 := blk_frozen p3 4
                clear hG p1 p2 p3
                refine norm_ (a' := ?_) ?_ ?_
                rotate_left
                · simp only [putAll, Act.put, List.setIfInBounds_toArray, List.set_cons_zero, List.set_cons_succ]
                  rfl
                refine last_ (i := 26) (N := none) #[true, true, true, true, true, true, true, true, true, true, true, true, true, true, true, true, true, true, true, true, true, true, true, true, true, true, true, false, false, false, false, false, false] rfl rfl (by kernel_rfl) (by decide) (fun K hK => ?_)
                refine skip_ (w1 := (w').setCell ⟨bp, 0, none⟩ (.slice A0 n0 k0)) (by rfl) rfl ?_ ?_
                · first | (go_simp; done) | (go_simp; rfl)
                refine hK.out _ _ ?_
                clear hK K
                refine pure_ (i := 27) (N := some 88) (v := ?_) (a' := ?_) #[true, true, true, true, true, true, true, true, true, true, true, true, true, true, true, true, true, true, true, true, true, true, true, true, true, true, true, true, false, false, false, false, false] rfl rfl (by kernel_rfl) (fun _ _ _ h => h) (Or.inl ⟨by rfl, ?_⟩) ?_ ?_
                rotate_left
                · intro w'
                  go_simp
                  with_reducible rfl
                rotate_left
                · simp only [Act.put, List.setIfInBounds_toArray, List.set_cons_zero, List.set_cons_succ, i64_w, i32_w]
                  rfl
                refine last_ (i := 28) (N := none) #[true, true, true, true, true, true, true, true, true, true, true, true, true, true, true, true, true, true, true, true, true, true, true, true, true, true, true, true, true, false, false, false, false] rfl rfl (by kernel_rfl) (by decide) (fun K hK => ?_)
                refine skip_ (w1 := ((w').setCell ⟨bp, 0, none⟩ (.slice A0 n0 k0)).setCell ⟨bp, 2, none⟩ (.slice A1 n1 k1)) (by rfl) rfl ?_ ?_
                · first | (go_simp; done) | (go_simp; rfl)
                refine hK.out _ _ ?_
                clear hK K
                refine pure_ (i := 29) (N := some 89) (v := ?_) (a' := ?_) #[true, true, true, true, true, true, true, true, true, true, true, true, true, true, true, true, true, true, true, true, true, true, true, true, true, true, true, true, true, true, false, false, false] rfl rfl (by kernel_rfl) (fun _ _ _ h => h) (Or.inl ⟨by rfl, ?_⟩) ?_ ?_
                rotate_left
                · intro w'
                  go_simp
                  with_reducible rfl
                rotate_left
                · simp only [Act.put, List.setIfInBounds_toArray, List.set_cons_zero, List.set_cons_succ, i64_w, i32_w]
                  rfl
                refine last_ (i := 30) (N := none) #[true, true, true, true, true, true, true, true, true, true, true, true, true, true, true, true, true, true, true, true, true, true, true, true, true, true, true, true, true, true, true, false, false] rfl rfl (by kernel_rfl) (by decide) (fun K hK => ?_)
                refine skip_ (w1 := (((w').setCell ⟨bp, 0, none⟩ (.slice A0 n0 k0)).setCell ⟨bp, 2, none⟩ (.slice A1 n1 k1)).setCell ⟨bp, 3, none⟩ (.slice A2 n2 k2)) (by rfl) rfl ?_ ?_
                · first | (go_simp; done) | (go_simp; rfl)
                refine hK.out _ _ ?_
                clear hK K
                refine pure_ (i := 31) (N := some 90) (v := ?_) (a' := ?_) #[true, true, true, true, true, true, true, true, true, true, true, true, true, true, true, true, true, true, true, true, true, true, true, true, true, true, true, true, true, true, true, true, false] rfl rfl (by kernel_rfl) (fun _ _ _ h => h) (Or.inl ⟨by rfl, ?_⟩) ?_ ?_
                rotate_left
                · intro w'
                  go_simp
                  with_reducible rfl
                rotate_left
                · simp only [Act.put, List.setIfInBounds_toArray, List.set_cons_zero, List.set_cons_succ, i64_w, i32_w]
                  rfl
                refine last_ (i := 32) (N := none) #[true, true, true, true, true, true, true, true, true, true, true, true, true, true, true, true, true, true, true, true, true, true, true, true, true, true, true, true, true, true, true, true, true] rfl rfl (by kernel_rfl) (by decide) (fun K hK => ?_)
                refine skip_ (w1 := ((((w').setCell ⟨bp, 0, none⟩ (.slice A0 n0 k0)).setCell ⟨bp, 2, none⟩ (.slice A1 n1 k1)).setCell ⟨bp, 3, none⟩ (.slice A2 n2 k2)).setCell ⟨bp, 4, none⟩ (.slice A3 n3 k3)) (by rfl) rfl ?_ ?_
                · first | (go_simp; done) | (go_simp; rfl)
                refine hK.out _ _ ?_
                clear hK K
                refine done_ (by kernel_rfl) ?_
                have hEn := HE.out.snoc (i := (i : Int)) (m := ⟨f, t⟩) hlb.1 hlb.2 hys (inN_no.1 hin)
                clear d0 d2 d3 d4 f0 f2 f3 f4
                generalize ((((w').setCell ⟨bp, 0, none⟩ (.slice A0 n0 k0)).setCell ⟨bp, 2, none⟩ (.slice A1 n1 k1)).setCell ⟨bp, 3, none⟩ (.slice A2 n2 k2)).setCell ⟨bp, 4, none⟩ u4 = W9 at *
                go_wp2
                exact ⟨⟨j + 1, (.slice A0 n0 k0), (.slice A1 n1 k1), (.slice A2 n2 k2), (.slice A3 n3 k3), _, rfl, by omega, Aside0.mk hPn, Aside0.mk hEn, HV, Lib.hid (Bfs.get_old hei.out), Aside0.mk hRn, Aside0.mk hNn⟩, by simp [RowKit.intOf]; omega⟩
          · have hdec : decide ((j : Int) < (ms.length : Int)) = false := decide_eq_false (by omega)
            rw [List.drop_of_length_le (by omega)] at hv
            simp only [visitO] at hv
            obtain rfl := Option.some.inj hv
            clear hv HV
            have hlen1 := HE.out.len
            go_wp2
            go_roundg g'
            case measure => omega
            case rel => exact ⟨i + 1, q0, q2, q3, q4, E1, rfl, HQ, HE, HP1, by omega, by omega⟩
      · have hdec : decide ((i : Int) < (E.length : Int)) = false := decide_eq_false (by omega)
        rw [List.getElem?_eq_none (by omega)] at ho
        obtain rfl := Option.some.inj ho
        obtain ⟨A2, n2, k2, z2⟩ := R_any hP.r2
        obtain ⟨A3, n3, k3, z3⟩ := R_any hP.r3
        obtain ⟨A4, n4, k4, z4⟩ := R_any hP.r4
        subst z2
        subst z3
        subst z4
        have hc1 : wr.cell? ⟨bp, 1, none⟩ = some (.map (some bm)) := (blk_cell hP.p 1).trans rfl
        have hc2 : wr.cell? ⟨bp, 2, none⟩ = some (.slice A2 n2 k2) := (blk_cell hP.p 2).trans rfl
        have hc3 : wr.cell? ⟨bp, 3, none⟩ = some (.slice A3 n3 k3) := (blk_cell hP.p 3).trans rfl
        have hc4 : wr.cell? ⟨bp, 4, none⟩ = some (.slice A4 n4 k4) := (blk_cell hP.p 4).trans rfl
        have hd0 : wr.cell? ⟨w.heap.size, 0, none⟩ = some (.slice none 0 0) := (blk_cell hP.res 0).trans rfl
        have hd1 : wr.cell? ⟨w.heap.size, 1, none⟩ = some (.map none) := (blk_cell hP.res 1).trans rfl
        have hd2 : wr.cell? ⟨w.heap.size, 2, none⟩ = some (.slice none 0 0) := (blk_cell hP.res 2).trans rfl
        have hd3 : wr.cell? ⟨w.heap.size, 3, none⟩ = some (.slice none 0 0) := (blk_cell hP.res 3).trans rfl
        have hd4 : wr.cell? ⟨w.heap.size, 4, none⟩ = some (.slice none 0 0) := (blk_cell hP.res 4).trans rfl
        have hf0 := blk_frozen hP.res 0
        have hf1 := blk_frozen hP.res 1
        have hf2 := blk_frozen hP.res 2
        have hf3 := blk_frozen hP.res 3
        have hf4 := blk_frozen hP.res 4
        clear ho HO
        go_wp2
        have y0 : ((wr).setCell ⟨w.heap.size, 0, none⟩ (.slice (some ⟨g0, 0, none⟩) E.length c0)).heap[w.heap.size]? = some (.cells #[(.slice (some ⟨g0, 0, none⟩) E.length c0), (.map none), (.slice none 0 0), (.slice none 0 0), (.slice none 0 0)] 67 (0, 0)) := blk_put hP.res 0 (.slice (some ⟨g0, 0, none⟩) E.length c0) rfl
        have y1 : (((wr).setCell ⟨w.heap.size, 0, none⟩ (.slice (some ⟨g0, 0, none⟩) E.length c0)).setCell ⟨w.heap.size, 1, none⟩ (.map (some bm))).heap[w.heap.size]? = some (.cells #[(.slice (some ⟨g0, 0, none⟩) E.length c0), (.map (some bm)), (.slice none 0 0), (.slice none 0 0), (.slice none 0 0)] 67 (0, 0)) := blk_put y0 1 (.map (some bm)) rfl
        have y2 : ((((wr).setCell ⟨w.heap.size, 0, none⟩ (.slice (some ⟨g0, 0, none⟩) E.length c0)).setCell ⟨w.heap.size, 1, none⟩ (.map (some bm))).setCell ⟨w.heap.size, 2, none⟩ (.slice A2 n2 k2)).heap[w.heap.size]? = some (.cells #[(.slice (some ⟨g0, 0, none⟩) E.length c0), (.map (some bm)), (.slice A2 n2 k2), (.slice none 0 0), (.slice none 0 0)] 67 (0, 0)) := blk_put y1 2 (.slice A2 n2 k2) rfl
        have y3 : (((((wr).setCell ⟨w.heap.size, 0, none⟩ (.slice (some ⟨g0, 0, none⟩) E.length c0)).setCell ⟨w.heap.size, 1, none⟩ (.map (some bm))).setCell ⟨w.heap.size, 2, none⟩ (.slice A2 n2 k2)).setCell ⟨w.heap.size, 3, none⟩ (.slice A3 n3 k3)).heap[w.heap.size]? = some (.cells #[(.slice (some ⟨g0, 0, none⟩) E.length c0), (.map (some bm)), (.slice A2 n2 k2), (.slice A3 n3 k3), (.slice none 0 0)] 67 (0, 0)) := blk_put y2 3 (.slice A3 n3 k3) rfl
        have y4 : ((((((wr).setCell ⟨w.heap.size, 0, none⟩ (.slice (some ⟨g0, 0, none⟩) E.length c0)).setCell ⟨w.heap.size, 1, none⟩ (.map (some bm))).setCell ⟨w.heap.size, 2, none⟩ (.slice A2 n2 k2)).setCell ⟨w.heap.size, 3, none⟩ (.slice A3 n3 k3)).setCell ⟨w.heap.size, 4, none⟩ (.slice A4 n4 k4)).heap[w.heap.size]? = some (.cells #[(.slice (some ⟨g0, 0, none⟩) E.length c0), (.map (some bm)), (.slice A2 n2 k2), (.slice A3 n3 k3), (.slice A4 n4 k4)] 67 (0, 0)) := blk_put y3 4 (.slice A4 n4 k4) rfl
        refine bodyPost_ret (results_cell_row rfl _ _ w.heap.size 67 #[(.slice (some ⟨g0, 0, none⟩) E.length c0), (.map (some bm)), (.slice A2 n2 k2), (.slice A3 n3 k3), (.slice A4 n4 k4)] (0, 0) _ rfl y4 Tryd.underlying67 rfl (by kernel_rfl)) rfl ?_
        have hk : ∀ k, k ≠ w.heap.size → ((((((wr).setCell ⟨w.heap.size, 0, none⟩ (.slice (some ⟨g0, 0, none⟩) E.length c0)).setCell ⟨w.heap.size, 1, none⟩ (.map (some bm))).setCell ⟨w.heap.size, 2, none⟩ (.slice A2 n2 k2)).setCell ⟨w.heap.size, 3, none⟩ (.slice A3 n3 k3)).setCell ⟨w.heap.size, 4, none⟩ (.slice A4 n4 k4)).heap[k]? = wr.heap[k]? := fun k hk => by
          rw [Below.heap_setCell _ ⟨w.heap.size, 4, none⟩ _ k hk, Below.heap_setCell _ ⟨w.heap.size, 3, none⟩ _ k hk, Below.heap_setCell _ ⟨w.heap.size, 2, none⟩ _ k hk, Below.heap_setCell _ ⟨w.heap.size, 1, none⟩ _ k hk, Below.heap_setCell _ ⟨w.heap.size, 0, none⟩ _ k hk]
        have ob : ∀ (u : Value), some w.heap.size ≠ u.ownBlock → ∀ k, u.ownBlock = some k → k ≠ w.heap.size := fun u hu k hk e => hu (by rw [hk, e])
        have hB := (((((hP.B.setCell (p := ⟨w.heap.size, 0, none⟩) (Nat.le_refl _) (.slice (some ⟨g0, 0, none⟩) E.length c0)).setCell (p := ⟨w.heap.size, 1, none⟩) (Nat.le_refl _) (.map (some bm))).setCell (p := ⟨w.heap.size, 2, none⟩) (Nat.le_refl _) (.slice A2 n2 k2)).setCell (p := ⟨w.heap.size, 3, none⟩) (Nat.le_refl _) (.slice A3 n3 k3)).setCell (p := ⟨w.heap.size, 4, none⟩) (Nat.le_refl _) (.slice A4 n4 k4))
        clear y0 y1 y2 y3 y4
        generalize (((((wr).setCell ⟨w.heap.size, 0, none⟩ (.slice (some ⟨g0, 0, none⟩) E.length c0)).setCell ⟨w.heap.size, 1, none⟩ (.map (some bm))).setCell ⟨w.heap.size, 2, none⟩ (.slice A2 n2 k2)).setCell ⟨w.heap.size, 3, none⟩ (.slice A3 n3 k3)).setCell ⟨w.heap.size, 4, none⟩ (.slice A4 n4 k4) = W9 at *
        exact ⟨_, rfl, ⟨bm, _, _, _, _, rfl, hP.lm, hP.m.move (hk bm (Nat.ne_of_gt hP.lm)), R_stay flat_s hP.r0 (fun k hk' => hk k (ob _ (Kd.R_ne hP.r0 hP.res (by decide)) k hk')), R_stay flat_i hP.r2 (fun k hk' => hk k (ob _ (Kd.R_ne hP.r2 hP.res (by decide)) k hk')), R_stay flat_m hP.r3 (fun k hk' => hk k (ob _ (Kd.R_ne hP.r3 hP.res (by decide)) k hk')), R_stay flat_i hP.r4 (fun k hk' => hk k (ob _ (Kd.R_ne hP.r4 hP.res (by decide)) k hk')), hP.ne⟩, HE.out, hB⟩
end
def impl_pathsFrom.f (a0 : ByteArray) : Option (ByteArray) := none

end Go.Proofs.YtjgijaocinpkhaaDoor.XT
