/- The Lean functions that the Go functions of this seat compute, each with the proof that the Go function computes it, for every input (laws: FnExactPartsByRule). Conditions: none beyond those that each theorem names. Written by a program of this session over the kit's printer. -/
import Derived.Test.YtpelhinjoambfaaXP0
import Derived.Test.YtpelhinjoambfaaXP1
import Derived.Test.YtpelhinjoambfaaXP11
import Derived.Test.YtpelhinjoambfaaXP12
import Derived.Test.YtpelhinjoambfaaXP14
namespace Go.Proofs.Ytpelhinjoambfaa.XP
open Go.RowKit Go.Proofs.YtpelhinjoambfaaW.PrintWords Go.Proofs.YtpelhinjoambfaaW.PrintLast Go.Proofs.YtpelhinjoambfaaW.PrintMore
attribute [local go_sem] max2_int min2_int max_two min_two max_three min_three max_four min_four   -- for this text's walks alone
attribute [local go_sem] Lib.run_min_strs Go.Proofs.YtpelhinjoambfaaXW.run_min2_strs Go.Proofs.YtpelhinjoambfaaXW.run_int_string
set_option linter.unusedVariables false
set_option linter.unusedSimpArgs false

/-! ### impl_PartsByRule: function 23 (given) -/
section
open Go Go.RowKit Go.Lib Go.Proofs.YtpelhinjoambfaaW.PrintWords Go.Proofs.YtpelhinjoambfaaW.PrintLast Go.Proofs.Ytpelhinjoambfaa.Ranks Go.Proofs.Ytpelhinjoambfaa.Mt
-- uses impl_allLines.walk impl_movesBy.calls impl_areCounts.calls impl_made.calls
theorem tl_injP {a b : ByteArray} (h : a.toList = b.toList) : a = b := by
  rw [ByteArray.toList_eq, ByteArray.toList_eq] at h
  cases a
  cases b
  congr 1
  exact Array.ext' h
theorem grown_of {w w' : World} (h : Below w.heap.size w w') (row : Option Nat) : w.grownBy w' row := ⟨h.os, h.tape, h.output, h.size, fun k hk _ => h.block k hk⟩
/-- the boxes of the map and of the function that calls itself -/
structure Bu (bu br bm : Nat) (w : World) : Prop where
  u : w.heap[bu]? = some (.cells #[.map (some bm)] 62 (0, 0))
  r : w.heap[br]? = some (.cells #[.func (.func 51) #[] #[.pointer (some ⟨bu, 0, none⟩), .pointer (some ⟨br, 0, none⟩)]] 63 (0, 0))
theorem Bu.grown {bu br bm : Nat} {w w' : World} {P : Program} {K : TypeId} {N : List ByteArray} {U : ByteArray → ByteArray} (h : Bu bu br bm w) (hg : w.grownBy w' (some bm)) (hm : MapT P K w bm N U) : Bu bu br bm w' :=
  ⟨blk_grown h.u hg (fun e => hm.ne_cells h.u (Option.some.inj e).symm), blk_grown h.r hg (fun e => hm.ne_cells h.r (Option.some.inj e).symm)⟩
theorem Bu.below {bu br bm : Nat} {w w' : World} (h : Bu bu br bm w) (hb : Below w.heap.size w w') : Bu bu br bm w' := ⟨blk_below h.u hb, blk_below h.r hb⟩
set_option maxHeartbeats 4000000 in
set_option maxRecDepth 1000000 in
theorem root_walk (N : List ByteArray) (hNs : ∀ s ∈ N, s.size ≤ 1000) (hNl : N.length < 4611686018427387904) (bu br bm : Nat) : ∀ (f : Nat) (U : ByteArray → ByteArray) (x r : ByteArray) (U' : ByteArray → ByteArray) (W : World),
    Uf.rootU f U x = some (r, U') → x ∈ N → (∀ y ∈ N, U y ∈ N) → Bu bu br bm W → MapT Try.prog 9 W bm N U →
    Calls Try.prog 51 #[.string x, .pointer (some ⟨bu, 0, none⟩), .pointer (some ⟨br, 0, none⟩)] W fun e W' => e = .returned (.string r) ∧ MapT Try.prog 9 W' bm N U' ∧ W.grownBy W' (some bm) := by
  intro f
  induction f with
  | zero => intro U x r U' W h; cases h
  | succ f ih =>
  intro U x r U' W h hx hU hB hM
  have hxs := hNs x hx
  have hk := hM.look1 (T := 62) Try.underlying9 Try.underlying62 (by kernel_rfl) x (by unfold maxLen; omega) hx
  have hcu : W.cell? ⟨bu, 0, none⟩ = some (.map (some bm)) := (blk_cell hB.u 0).trans rfl
  have hcr : W.cell? ⟨br, 0, none⟩ = some (.func (.func 51) #[] #[.pointer (some ⟨bu, 0, none⟩), .pointer (some ⟨br, 0, none⟩)]) := (blk_cell hB.r 0).trans rfl
  rw [Uf.rootU] at h
  by_cases hux : U x = x
  · rw [if_pos hux] at h
    cases h
    rw [hux] at hk
    have hbe : (x.toList == x.toList) = true := beq_self_eq_true _
    have HM := Aside0.mk hM
    have hg0 : W.grownBy W (some bm) := grown_of (Below.refl _ _) _
    have HX := Lib.hid hux
    clear hM hB hU ih hux hNs
    go_enter Try.func51, Try.ntmps51
    go_wp2
    skip
    go_ret
    exact ⟨by rw [HX.out]; rfl, HM.out, hg0⟩
  · rw [if_neg hux] at h
    obtain ⟨⟨q1, q2⟩, hq, h⟩ := Option.bind_eq_some_iff.mp h
    cases h
    obtain ⟨hq1, hq2⟩ := Uf.rootU_in f U (U x) q1 q2 hU (hU x hx) hq
    have hq1s := hNs q1 hq1
    have hMd : MapT Try.prog 9 W.drew bm N U := hM.move rfl
    have hk2 := hMd.look1 (T := 62) Try.underlying9 Try.underlying62 (by kernel_rfl) x (by unfold maxLen; omega) hx
    have HIH := Aside0.mk (ih U (U x) q1 q2 W.drew hq (hU x hx) hU (hB.below (below_drew1 (Below.refl _ _))) hMd)
    have HB := Aside0.mk (show Bu bu br bm W.drew from hB.below (below_drew1 (Below.refl _ _)))
    have HM := Aside0.mk hMd
    have hbe : ((U x).toList == x.toList) = false := beq_eq_false_iff_ne.2 (fun e => hux (tl_injP e))
    clear hM hB hU ih hux hNs hq hMd
    go_enter Try.func51, Try.ntmps51
    go_wp2_with fail
    skip
    refine start_ (n := 8) (S := fun w' => w'.cell? ⟨bu, 0, none⟩ = some (.map (some bm)) ∧ w'.cell? ⟨br, 0, none⟩ = some (.func (.func 51) #[] #[.pointer (some ⟨bu, 0, none⟩), .pointer (some ⟨br, 0, none⟩)])) (ds := []) #[false, false, false, false, false, false, false, false] (by kernel_rfl) rfl rfl ⟨hcu, hcr⟩ (fun hHeld => ?_)
    refine take_ (i := 0) (N := some 10) (v := ?_) (a' := ?_) #[true, false, false, false, false, false, false, false] rfl rfl (by kernel_rfl) (fun _ _ _ h => h) (Or.inl ⟨by rfl, ?_⟩) hHeld ?_ ?_
    rotate_left
    · rintro w' ⟨s0, s1⟩
      go_simp
      with_reducible rfl
    rotate_left
    · simp only [Act.put, List.setIfInBounds_toArray, List.set_cons_zero, List.set_cons_succ, i64_w, i32_w]
      rfl
    refine pure_ (i := 1) (N := some 11) (v := ?_) (a' := ?_) #[true, true, false, false, false, false, false, false] rfl rfl (by kernel_rfl) (fun _ _ _ h => h) (Or.inl ⟨by rfl, ?_⟩) ?_ ?_
    rotate_left
    · intro w'
      go_simp
      with_reducible rfl
    rotate_left
    · simp only [Act.put, List.setIfInBounds_toArray, List.set_cons_zero, List.set_cons_succ, i64_w, i32_w]
      rfl
    refine take_ (i := 2) (N := some 12) (v := ?_) (a' := ?_) #[true, true, true, false, false, false, false, false] rfl rfl (by kernel_rfl) (fun _ _ _ h => h) (Or.inl ⟨by rfl, ?_⟩) hHeld ?_ ?_
    rotate_left
    · rintro w' ⟨s0, s1⟩
      go_simp
      with_reducible rfl
    rotate_left
    · simp only [Act.put, List.setIfInBounds_toArray, List.set_cons_zero, List.set_cons_succ, i64_w, i32_w]
      rfl
    refine take_ (i := 3) (N := some 13) (v := ?_) (a' := ?_) #[true, true, true, true, false, false, false, false] rfl rfl (by kernel_rfl) (fun _ _ _ h => h) (Or.inl ⟨by rfl, ?_⟩) hHeld ?_ ?_
    rotate_left
    · rintro w' ⟨s0, s1⟩
      go_simp
      with_reducible rfl
    rotate_left
    · simp only [Act.put, List.setIfInBounds_toArray, List.set_cons_zero, List.set_cons_succ, i64_w, i32_w]
      rfl
    refine pure_ (i := 4) (N := some 14) (v := ?_) (a' := ?_) #[true, true, true, true, true, false, false, false] rfl rfl (by kernel_rfl) (fun _ _ _ h => h) (Or.inl ⟨by rfl, ?_⟩) ?_ ?_
    rotate_left
    · intro w'
      go_simp
      with_reducible rfl
    rotate_left
    · simp only [Act.put, List.setIfInBounds_toArray, List.set_cons_zero, List.set_cons_succ, i64_w, i32_w]
      rfl
    refine one_ (i := 5) (N := some 15) #[true, true, true, true, true, true, false, false] rfl rfl (by kernel_rfl) (by decide) (fun K hK => ?_)
    refine value_ (by rfl) rfl (v := .string (U x)) (w1 := W.drew) ?_ ?_
    · first | (go_simp; done) | (go_simp; rfl)
    refine hK.out _ _ ⟨hcu, hcr⟩ (fun hHeld => ?_)
    clear hK K
    refine norm_ (a' := ?_) ?_ ?_
    rotate_left
    · show Act.put _ (some 15) _ = _
      simp only [Act.put, List.setIfInBounds_toArray, List.set_cons_zero, List.set_cons_succ, i64_w, i32_w]
      rfl
    refine one_ (i := 6) (N := some 16) #[true, true, true, true, true, true, true, false] rfl rfl (by kernel_rfl) (by decide) (fun K hK => ?_)
    refine goesV_ Try.func51 (by kernel_rfl) rfl #[.string (U x), .pointer (some ⟨bu, 0, none⟩), .pointer (some ⟨br, 0, none⟩)] (by rfl) rfl rfl (by rfl) (by (try simp only [List.map_toArray, List.map_cons, List.map_nil]); first | done | rfl) ?_
    refine (HIH.out).mono ?_
    rintro e5 W5 ⟨rfl, hM5, hg5⟩
    refine ⟨_, rfl, ?_⟩
    have hB5 := HB.out.grown hg5 HM.out
    obtain ⟨W6, hrun, hM6, hg6⟩ := hM5.put_old (T := 62) Try.underlying9 Try.underlying62 x q1 (by unfold maxLen; omega) (by unfold maxLen; omega) hNl hx
    have hB6 := hB5.grown hg6 hM5
    refine hK.out _ _ ⟨(blk_cell hB5.u 0).trans rfl, (blk_cell hB5.r 0).trans rfl⟩ (fun hHeld => ?_)
    clear hK K
    refine norm_ (a' := ?_) ?_ ?_
    rotate_left
    · show Act.put _ (some 16) _ = _
      simp only [Act.put, List.setIfInBounds_toArray, List.set_cons_zero, List.set_cons_succ, i64_w, i32_w]
      rfl
    refine one_ (i := 7) (N := none) #[true, true, true, true, true, true, true, true] rfl rfl (by kernel_rfl) (by decide) (fun K hK => ?_)
    refine skip_ (w1 := W6) (by rfl) rfl ?_ ?_
    · first | (go_simp; done) | (go_simp; rfl)
    refine hK.out _ _ ⟨(blk_cell hB6.u 0).trans rfl, (blk_cell hB6.r 0).trans rfl⟩ (fun hHeld => ?_)
    clear hK K
    refine done_ (by kernel_rfl) ?_
    have hg : W.grownBy W6 (some bm) := (grown_of (below_drew1 (Below.refl _ _)) _).trans (hg5.trans hg6)
    have hk6 := hM6.look1 (T := 62) Try.underlying9 Try.underlying62 (by kernel_rfl) x (by unfold maxLen; omega) hx
    rw [Uf.upd_same] at hk6
    have hcu6 : W6.cell? ⟨bu, 0, none⟩ = some (.map (some bm)) := (blk_cell hB6.u 0).trans rfl
    clear hHeld hrun hB5 hg5 hg6 hM5 hcu hcr hk hk2
    go_wp2
    go_ret
    exact ⟨rfl, hM6, hg⟩
/-- a row's block is no map -/
theorem mt_ne {α : Type} {d : Kd α} {e base : Nat} {ok : Nat → Prop} {w : World} {v : Value} {xs : List α} {P : Program} {K : TypeId} {bm : Nat} {N : List ByteArray} {U : ByteArray → ByteArray} (h : d.R e w base ok v xs) (hm : MapT P K w bm N U) : some bm ≠ v.ownBlock := fun e' => by
  obtain ⟨cells, hc⟩ := Kd.R_typed h bm e'.symm
  exact hm.ne_cells hc rfl
/-- where a map alone has turned, rows stay -/
theorem R_map {α : Type} {d : Kd α} {e base : Nat} {ok : Nat → Prop} {w w1 : World} {v : Value} {xs : List α} {P : Program} {K : TypeId} {bm : Nat} {N : List ByteArray} {U : ByteArray → ByteArray} (h : d.R e w base ok v xs) (hg : w.grownBy w1 (some bm)) (hm : MapT P K w bm N U) : d.R e w1 base ok v xs :=
  Kd.R_mono (Kd.R_move (Kd.R_bound h) (fun k hk => hg.block k hk.2.2.1 (fun e' => by
    obtain ⟨q, hq, cells, hc⟩ := hk.2.2.2
    exact hm.ne_cells hc (Option.some.inj e').symm))) (fun _ hk => hk.1)
theorem addN_fold_le : ∀ (l N : List ByteArray), (l.foldl addN N).length ≤ N.length + l.length
  | [], N => Nat.le_refl _
  | s :: l, N => by
    have h1 := addN_fold_le l (addN N s)
    have h2 := addN_le N s
    rw [List.foldl_cons, List.length_cons]
    omega
abbrev TI_ : Nat → Prop := fun _ => True
/-- what lay below a mark stays, and what a walk over all lines leans on -/
structure Kq (m : Nat) (w w' : World) : Prop where
  sz : w.heap.size ≤ w'.heap.size
  bl : m ≤ w.heap.size → Below m w w'
  kt : KT w w'
theorem Kq.below {m : Nat} {w w' : World} (h : Below w.heap.size w w') : Kq m w w' := ⟨h.size, fun hm => h.mono hm, KT.below h⟩
theorem Kq.trans {m : Nat} {w w1 w2 : World} (h : Kq m w w1) (k : Kq m w1 w2) : Kq m w w2 := ⟨Nat.le_trans h.sz k.sz, fun hm => (h.bl hm).trans (k.bl (Nat.le_trans hm h.sz)), h.kt.trans k.kt⟩
theorem Kq.grown {m : Nat} {w w' : World} {row : Option Nat} (hg : w.grownBy w' row) (hm : ∀ k, row = some k → m ≤ k) (ht : ∀ k cells t, row = some k → w.heap[k]? = some (.cells cells t (0, 0)) → leans t = false) : Kq m w w' :=
  ⟨hg.size, fun hs => (Below.refl m w).grown hg hs hm, ⟨hg.size, fun k cells t hc hl => hg.block k (Array.getElem?_eq_some_iff.1 hc).1 (fun e => by
    rw [ht k cells t e.symm hc] at hl
    cases hl)⟩⟩
theorem Kq.set {m b t : Nat} {w : World} {cs : Array Value} (hm : m ≤ b) (hb : w.heap[b]? = some (.cells cs t (0, 0))) (ht : leans t = false) (j : Nat) (u : Value) : Kq m w (w.setCell ⟨b, j, none⟩ u) :=
  ⟨by simp, fun _ => (Below.refl m w).setCell (p := ⟨b, j, none⟩) hm u, ⟨by simp, fun k cells t' hc hl => Below.heap_setCell w ⟨b, j, none⟩ u k (fun e => by
    rw [e] at hc
    replace hc : w.heap[b]? = some (.cells cells t' (0, 0)) := hc
    rw [hb] at hc
    cases hc
    rw [ht] at hl
    cases hl)⟩⟩
/-- what stands while the lines are told: the map, the row of lines in its box, and two boxes that stay -/
structure Gw (m bu br bm bl rb : Nat) (ob : Obj) (done : List ByteArray) (w : World) : Prop where
  B : Bu bu br bm w
  M : MapT Try.prog 9 w bm (done.foldl addN []) (fun x => x)
  R : ∃ (A : Option Addr) (n c : Nat), w.heap[bl]? = some (.cells #[.slice A n c] 49 (0, 0)) ∧ Kd.R Kd.string 9 w m TI_ (.slice A n c) done
  o : w.heap[rb]? = some ob
theorem Gw.below {m bu br bm bl rb : Nat} {ob : Obj} {done : List ByteArray} {w w' : World} (h : Gw m bu br bm bl rb ob done w) (hb : Below w.heap.size w w') : Gw m bu br bm bl rb ob done w' := by
  obtain ⟨A, n, c, h1, h2⟩ := h.R
  exact ⟨h.B.below hb, h.M.below hb, ⟨A, n, c, blk_below h1 hb, Kd.R_below h2 hb⟩, blk_below h.o hb⟩
theorem pi_info9 : (Try.prog.info? 9).map (fun i => (i.zero, i.size, i.bytes)) = some (some (.string ⟨#[]⟩), 1, 16) := by kernel_rfl
set_option maxHeartbeats 4000000 in
set_option maxRecDepth 1000000 in
theorem add_walk (m bu br bm bl rb : Nat) (ob : Obj) (hm1 : m ≤ bm) (hm2 : m ≤ bl) (hu : bu ≠ bl) (hr : br ≠ bl) (ho : rb ≠ bl) (hom : rb ≠ bm) (hoc : ∃ cs, ob = .cells cs 31 (0, 0)) (done : List ByteArray) (s : ByteArray) (W : World) (hd : done.length < 1000000) (hI : Gw m bu br bm bl rb ob done W) (hs : s.size ≤ 1000) :
    Calls Try.prog 52 (#[.string s] ++ #[.pointer (some ⟨bu, 0, none⟩), .pointer (some ⟨bl, 0, none⟩)]) W fun e W' => e = .returned (.tuple #[]) ∧ Gw m bu br bm bl rb ob (done ++ [s]) W' ∧ Kq m W W' := by
  have hfl := addN_fold_le done []
  rw [List.length_nil] at hfl
  obtain ⟨W1, hrun, hM1, hg1⟩ := hI.M.put (T := 62) Try.underlying9 Try.underlying62 s s (by unfold maxLen; omega) (by unfold maxLen; omega) (by omega)
  obtain ⟨A, n, c, hl, hR⟩ := hI.R
  have hcu : W.cell? ⟨bu, 0, none⟩ = some (.map (some bm)) := (blk_cell hI.B.u 0).trans rfl
  have hB1 := hI.B.grown hg1 hI.M
  have hl1 := blk_grown hl hg1 (fun e => hI.M.ne_cells hl (Option.some.inj e).symm)
  have hR1 := R_map hR hg1 hI.M
  have ho1 := blk_grown hI.o hg1 (fun e => hom (Option.some.inj e))
  have hcl : W1.cell? ⟨bl, 0, none⟩ = some (.slice A n c) := (blk_cell hl1 0).trans rfl
  have hk1 : Kq m W W1 := Kq.grown hg1 (fun k e => by cases e; exact hm1) (fun k cells t e hc => by cases e; exact absurd rfl (hI.M.ne_cells hc))
  have hms : m ≤ W1.heap.size := Nat.le_trans hm2 (Nat.le_of_lt (blk_lt hl1))
  have HX := Aside0.mk (And.intro hB1 (And.intro hM1 (And.intro hR1 (And.intro hl1 (And.intro ho1 hk1)))))
  have hfold : (done ++ [s]).foldl addN [] = addN (done.foldl addN []) s := by rw [List.foldl_append]; rfl
  clear hI hB1 hM1 hR hR1 hl hl1 ho1 hk1 hg1 hfl
  go_enter Try.func52, Try.ntmps52
  go_wp2_with (first
    | ((with_reducible refine gate_builtin (b := .append) (xs := #[.tmp 7, .tmp 9]) rfl ?_); at_builtin; refine Kd.R_append Kd.string (w0 := W1) m rfl (.tmp 7) (.tmp 9) 49 9 (.string ⟨#[]⟩) 16 rfl Try.underlying49 pi_info9 rfl (by decide) (by decide) (.slice A n c) done s [.string s] TI_ (fun _ => False) rfl rfl (by exact rfl) (fun _ hk => hk.elim) (fun _ _ => trivial) HX.out.2.2.1 (Below.refl _ _) hms (by omega) ?_; intro v3 w3 ho3 hb3 hg3 hx3; have hne3 := Kd.R_ne HX.out.2.2.1 HX.out.2.2.2.1 (by decide); have hl3 := blk_grown HX.out.2.2.2.1 hg3 hne3; have hc3 : w3.cell? ⟨bl, 0, none⟩ = some (.slice A n c) := (blk_cell hl3 0).trans rfl; have hf3 := blk_frozen hl3 0; obtain ⟨A3, c3, hz3⟩ := Kd.R_slice ho3; subst hz3))
  go_end0
  have hX := HX.out
  obtain ⟨cs, rfl⟩ := hoc
  have hnr : some rb ≠ (Value.slice A n c).ownBlock := Kd.R_ne hX.2.2.1 hX.2.2.2.2.1 (by decide)
  have hnu : some bu ≠ (Value.slice A n c).ownBlock := Kd.R_ne hX.2.2.1 hX.1.u (by decide)
  have hnf : some br ≠ (Value.slice A n c).ownBlock := Kd.R_ne hX.2.2.1 hX.1.r (by decide)
  have hm3 := (hX.2.1.congr (U' := fun x => x) (fun x _ => by unfold Uf.upd; split <;> simp_all)).kept hg3 (mt_ne hX.2.2.1 hX.2.1)
  refine ⟨rfl, ⟨⟨?_, ?_⟩, ?_, ⟨A3, _, c3, blk_put hl3 0 _ rfl, by have h := Kd.R_set ho3 hl3 (by decide) 0 (.slice A3 (done.length + 1) c3); rw [List.length_append, List.length_singleton] at h; exact h⟩, ?_⟩, (hX.2.2.2.2.2.trans (Kq.grown hg3 (fun k e => Kd.R_base hX.2.2.1 k e) (fun k cells t e hc => ?_))).trans (Kq.set hm2 hl3 (by decide) 0 _)⟩
  · exact (Below.heap_setCell w3 ⟨bl, 0, none⟩ _ bu hu).trans (blk_grown hX.1.u hg3 hnu)
  · exact (Below.heap_setCell w3 ⟨bl, 0, none⟩ _ br hr).trans (blk_grown hX.1.r hg3 hnf)
  · rw [hfold]
    exact hm3.set (hm3.ne_cells hl3) 0 _
  · exact (Below.heap_setCell w3 ⟨bl, 0, none⟩ _ rb ho).trans (blk_grown hX.2.2.2.2.1 hg3 hnr)
  · obtain ⟨cells', hc'⟩ := Kd.R_typed hX.2.2.1 k e
    rw [hc] at hc'
    cases hc'
    decide
set_option maxHeartbeats 4000000 in
set_option maxRecDepth 1000000 in
theorem impl_PartsByRule.no_ (o b l : Bool) (a0 a1 a2 : Int) (w : World) (h : impl_areCounts.f a0 a1 a2 8 = some false) :
    Calls Try.prog 23 #[.int .i64 a0, .int .i64 a1, .int .i64 a2, .agg #[.bool o, .bool b, .bool l]] w fun e w' => e = .returned (.tuple #[.int .i64 0, .bool false]) ∧ Below w.heap.size w w' := by
  go_enter Try.func23, Try.ntmps23
  go_wp2_with (first
    | (go_at_call 27; refine (impl_areCounts.calls a0 a1 a2 8 false _ h).mono ?_; rintro e w1 ⟨rfl, m1, rfl⟩; have hb1 := pw_below_drewN (below_alloc (Below.refl w.heap.size w) (.cells #[.bool o, .bool b, .bool l] 31 (0, 0))) m1))
  go_ret2
  exact ⟨rfl, hb1⟩
/-- the moves, the made text and whether it is a line, as the program tells them -/
def mvI (o b l : Bool) (s : ByteArray) : Option (List S58) := impl_movesBy.f 2000 s o b l
def mkI (s : ByteArray) (m : S58) : Option ByteArray := impl_made.f s m.f0 m.f1
def okI (N : List ByteArray) (y : ByteArray) : Bool := Pm.inN y N
theorem pi_form {α : Type} {d : Kd α} {e base : Nat} {ok : Nat → Prop} {w : World} {v : Value} {xs : List α} (h : d.R e w base ok v xs) (hn : 0 < xs.length) : ∃ g cap, v = .slice (some ⟨g, 0, none⟩) xs.length cap := by
  obtain ⟨g, cap, h1, _⟩ := Kd.R_form h hn
  exact ⟨g, cap, h1⟩
theorem pi_scell {e base g n cap : Nat} {ok : Nat → Prop} {w : World} {xs : List ByteArray} (h : Kd.string.R e w base ok (.slice (some ⟨g, 0, none⟩) n cap) xs) (i : Nat) (hi : i < n) : w.cell? ⟨g, i, none⟩ = some (.string (xs.getD i ByteArray.empty)) := by
  have h := (Kd.R_celln (enc := Value.string) (h1 := fun _ => rfl) ByteArray.empty h (i : Int) (by omega) (by omega)).1
  rw [Int.toNat_natCast] at h
  exact h
theorem R_zero {base g : Nat} {w : World} (hb : w.heap[g]? = some (.cells #[] 9 (0, 0))) (hle : base ≤ g) : Kd.R Kd.string 9 w base TI_ (.slice (some ⟨g, 0, none⟩) 0 0) [] := by
  refine ⟨fun _ _ => trivial, [], ⟨rfl, .inr ⟨g, 0, #[], rfl, hle, hb, Nat.le_refl _, by decide, rfl, rfl⟩⟩, ?_⟩
  exact Reps.none _ _
/-- the world in which all lines are told -/
def w5_ (w1 : World) : World := ((((w1.alloc (.map #[] 0)).alloc (.cells #[.map (some w1.heap.size)] 62 (0, 0))).alloc (.cells #[.func (.func 51) #[] #[.pointer (some ⟨w1.heap.size + 1, 0, none⟩), .pointer (some ⟨w1.heap.size + 1 + 1, 0, none⟩)]] 63 (0, 0))).alloc (.cells #[] 9 (0, 0))).alloc (.cells #[.slice (some ⟨w1.heap.size + 1 + 1 + 1, 0, none⟩) 0 0] 49 (0, 0))
theorem w5_is (w1 : World) (rb m : Nat) (ob : Obj) (h : w1.heap[rb]? = some ob) (hm : m ≤ w1.heap.size) : Below w1.heap.size w1 (w5_ w1) ∧ Gw m (w1.heap.size + 1) (w1.heap.size + 1 + 1) w1.heap.size (w1.heap.size + 1 + 1 + 1 + 1) rb ob [] (w5_ w1) := by
  have z2 : (w1.alloc (.map #[] 0)).heap.size = w1.heap.size + 1 := by simp
  have z3 : ((w1.alloc (.map #[] 0)).alloc (.cells #[.map (some w1.heap.size)] 62 (0, 0))).heap.size = w1.heap.size + 1 + 1 := by simp
  have z4 : (((w1.alloc (.map #[] 0)).alloc (.cells #[.map (some w1.heap.size)] 62 (0, 0))).alloc (.cells #[.func (.func 51) #[] #[.pointer (some ⟨w1.heap.size + 1, 0, none⟩), .pointer (some ⟨w1.heap.size + 1 + 1, 0, none⟩)]] 63 (0, 0))).heap.size = w1.heap.size + 1 + 1 + 1 := by simp
  have z5 : ((((w1.alloc (.map #[] 0)).alloc (.cells #[.map (some w1.heap.size)] 62 (0, 0))).alloc (.cells #[.func (.func 51) #[] #[.pointer (some ⟨w1.heap.size + 1, 0, none⟩), .pointer (some ⟨w1.heap.size + 1 + 1, 0, none⟩)]] 63 (0, 0))).alloc (.cells #[] 9 (0, 0))).heap.size = w1.heap.size + 1 + 1 + 1 + 1 := by simp
  have hB : Below w1.heap.size w1 (w5_ w1) := below_alloc (below_alloc (below_alloc (below_alloc (below_alloc (Below.refl _ _) _) _) _) _) _
  have hM0 := MapT.made (P := Try.prog) (K := 9) w1 (fun x => x)
  have hM5 : MapT Try.prog 9 (w5_ w1) w1.heap.size [] (fun x => x) := (((hM0.below (below_alloc (Below.refl _ _) _)).below (below_alloc (Below.refl _ _) _)).below (below_alloc (Below.refl _ _) _)).below (below_alloc (Below.refl _ _) _)
  refine ⟨hB, ⟨⟨?_, ?_⟩, hM5, ⟨_, _, _, ?_, R_zero (g := w1.heap.size + 1 + 1 + 1) ?_ (by omega)⟩, blk_below h hB⟩⟩
  · exact blk_alloc (blk_alloc (blk_alloc (z2 ▸ blk_new _ _) _) _) _
  · exact blk_alloc (blk_alloc (z3 ▸ blk_new _ _) _) _
  · exact z5 ▸ blk_new _ _
  · exact blk_alloc (z4 ▸ blk_new _ _) _
set_option maxHeartbeats 4000000 in
set_option maxRecDepth 1000000 in
theorem impl_PartsByRule.walk (o b l : Bool) (t g f : Nat) (N : List ByteArray) (S9 : (ByteArray → ByteArray) × Nat) (w : World) (h : impl_areCounts.f t g f 8 = some true) (h12 : t + g + f ≤ 12) (hN : linesAt (t + g + f) t g f [] = N) (hNd : N.Nodup) (hNs : ∀ s ∈ N, s.size ≤ 1000) (hNl : N.length ≤ 1000000)
    (hS : Uf.outG 200000000 (mvI o b l) mkI (okI N) N (fun x => x) N.length = some S9) :
    Calls Try.prog 23 #[.int .i64 (t : Int), .int .i64 (g : Int), .int .i64 (f : Int), .agg #[.bool o, .bool b, .bool l]] w fun e w' => e = .returned (.tuple #[.int .i64 (S9.2 : Int), .bool true]) ∧ Below w.heap.size w w' := by
  have hmf : ∀ (fn : Fn) (first cap : Array Value) (w : World), (Instr.makeFunc fn first cap).run Try.prog w = .ok (.func fn first cap) w := fun _ _ _ _ => rfl
  have hmm := @run_makeMap Try.prog
  have HS := Lib.hid hS
  have HA := Aside0.mk (fun (m bu br bm bl rb : Nat) (ob : Obj) (hm1 : m ≤ bm) (hm2 : m ≤ bl) (hu : bu ≠ bl) (hr : br ≠ bl) (ho : rb ≠ bl) (hom : rb ≠ bm) (hoc : ∃ cs, ob = .cells cs 31 (0, 0)) (W : World) (hI : Gw m bu br bm bl rb ob [] W) => impl_allLines.walk (ge := 52) (lb := #[.pointer (some ⟨bu, 0, none⟩), .pointer (some ⟨bl, 0, none⟩)]) (I := Gw m bu br bm bl rb ob) (Kp := Kq m) (P := fun s => s.size ≤ 1000)
    ⟨enters_of Try.func52 (by kernel_rfl) rfl, fun _ _ _ hI hb => hI.below hb, fun _ _ hb => Kq.below hb, fun _ _ _ h1 h2 => h1.trans h2, fun _ _ hk => hk.kt, fun done s W hd hI hP => add_walk m bu br bm bl rb ob hm1 hm2 hu hr ho hom hoc done s W hd hI hP⟩ t g f [] W h12 (by rw [hN]; simpa using hNl) (by rw [hN]; exact hNs) hI)
  have HN := Aside0.mk (show N.length < 4611686018427387904 by omega)
  have HD := Aside0.mk (And.intro hNd (And.intro hNs hN))
  have eg : ∀ (args : Array Value) (w : World), (callFunc 51 args).run Try.prog w = .ok (.enter 51 args) w := enters_of Try.func51 (by kernel_rfl) rfl
  clear hS hNd hNs hN
  go_enter Try.func23, Try.ntmps23
  go_wp2_with (first
    | (go_at_call 27; refine (impl_areCounts.calls t g f 8 true _ h).mono ?_; clear h; rintro e w1 ⟨rfl, m1, rfl⟩; have hb1 := pw_below_drewN (below_alloc (Below.refl w.heap.size w) (.cells #[.bool o, .bool b, .bool l] 31 (0, 0))) m1; have hf1 := blk_below (blk_new w (.cells #[.bool o, .bool b, .bool l] 31 (0, 0))) (pw_below_drewN (Below.refl (w.alloc (.cells #[.bool o, .bool b, .bool l] 31 (0, 0))).heap.size _) m1); have hz1 : ((w.alloc (.cells #[.bool o, .bool b, .bool l] 31 (0, 0))).drewN m1).heap.size = w.heap.size + 1 := (by simp); generalize (w.alloc (.cells #[.bool o, .bool b, .bool l] 31 (0, 0))).drewN m1 = w1 at *; obtain ⟨hb5, hG5⟩ := w5_is w1 w.heap.size w.heap.size _ hf1 (by omega); have HB5 := Aside0.mk (below_step hb1 hb5); have HG5 := Aside0.mk hG5; have HZ := Lib.hid hz1; clear hb5 hG5 hb1 hf1 hz1)
    | (go_at_call 40; skip; refine (HA.out w.heap.size (w1.heap.size + 1) (w1.heap.size + 1 + 1) w1.heap.size (w1.heap.size + 1 + 1 + 1 + 1) w.heap.size _ (by have := HZ.out; omega) (by have := HZ.out; omega) (by omega) (by omega) (by have := HZ.out; omega) (by have := HZ.out; omega) ⟨_, rfl⟩ (w5_ w1) HG5.out).mono ?_; rintro e w6 ⟨rfl, hI6, hk6⟩; rw [List.nil_append, HD.out.2.2] at hI6; have hb6 := HB5.out.trans (hk6.bl HB5.out.size); have hM6 := hI6.M; rw [addN_all N [] (by simpa using HD.out.1), List.nil_append] at hM6; obtain ⟨A6, n6, c6, hl6, hR6⟩ := hI6.R; obtain rfl : n6 = N.length := (Kd.R_reads' hR6).1; have hcl : w6.cell? ⟨w1.heap.size + 1 + 1 + 1 + 1, 0, none⟩ = some (.slice A6 N.length c6) := (blk_cell hl6 0).trans rfl; have AX := Aside0.mk (And.intro hb6 (And.intro hI6.B (And.intro hR6 (And.intro hI6.o (And.intro (show w.heap.size ≤ w1.heap.size by have := HZ.out; omega) (And.intro (show w.heap.size ≠ w1.heap.size by have := HZ.out; omega) hM6)))))); have HW := Aside0.mk (And.intro (grown_of (Below.refl w6.heap.size w6) (some w1.heap.size)) (And.intro hM6 (show ∀ y ∈ N, (fun (x : ByteArray) => x) y ∈ N from fun _ h => h))); clear hI6 hk6 hb6 hM6 hR6 hl6 HA HB5 HG5))
  generalize w1.heap.size + 1 + 1 + 1 + 1 = bl at *
  generalize w1.heap.size + 1 + 1 + 1 = bz at *
  generalize w1.heap.size + 1 + 1 = br at *
  generalize w1.heap.size + 1 = bu at *
  generalize hbm : w1.heap.size = bm at *
  clear hbm HZ
  go_loopw [13, 37] (fun x13 x37 wr => ∃ (i p : Nat) (U : ByteArray → ByteArray), x13 = .int .i64 (p : Int) ∧ x37 = .int .i64 (i : Int) ∧ i ≤ N.length ∧ p ≤ 1000000 ∧ Hid (Uf.outG 200000000 (mvI o b l) mkI (okI N) (N.drop i) U p = some S9) ∧ Aside0 (w6.grownBy wr (some bm) ∧ MapT Try.prog 9 wr bm N U ∧ ∀ y ∈ N, U y ∈ N)) (fun _ x37 _ => N.length - (RowKit.intOf x37).toNat)
  case atStart => exact ⟨0, N.length, _, rfl, rfl, Nat.zero_le _, hNl, HS, HW⟩
  case round =>
    clear HS HW hcl
    obtain ⟨i, p, U, rfl, rfl, hi, hp, HS, HW⟩ := hrel
    have hs := HS.out
    by_cases hil : i < N.length
    · have hdec : decide ((i : Int) < (N.length : Int)) = true := decide_eq_true (by omega)
      have hi0 : (0 : Int) ≤ (i : Int) := Int.natCast_nonneg _
      have hil' : (i : Int) < (N.length : Int) := by omega
      rw [List.drop_eq_getElem_cons hil, Uf.outG] at hs
      obtain ⟨ms, hms, hs⟩ := Option.bind_eq_some_iff.mp hs
      by_cases hml : ms.length ≤ 1000000
      case neg => rw [if_neg hml] at hs; cases hs
      rw [if_pos hml] at hs
      obtain ⟨⟨U2, p2⟩, hv, hs⟩ := Option.bind_eq_some_iff.mp hs
      have hRw := R_map AX.out.2.2.1 HW.out.1 AX.out.2.2.2.2.2.2
      obtain ⟨g6, c6', hz6⟩ := pi_form hRw (by omega)
      injection hz6 with hA6 _ hc6
      subst hA6
      subst hc6
      have hx := pi_scell hRw i hil
      have hrd : N.getD i ByteArray.empty = N[i] := by
        rw [List.getD_eq_getElem?_getD, List.getElem?_eq_getElem hil]
        rfl
      rw [hrd] at hx
      have HXN := Aside0.mk (List.getElem_mem hil)
      have HS2 := Lib.hid hs
      have HV := Lib.hid hv
      clear hs hrd HS hv hRw
      generalize N[i] = x at *
      have hrx := blk_grown AX.out.2.2.2.1 HW.out.1 (fun e => AX.out.2.2.2.2.2.1 (Option.some.inj e))
      have c0 : wr.cell? ⟨w.heap.size, 0, none⟩ = some (.bool o) := (blk_cell hrx 0).trans rfl
      have c1 : wr.cell? ⟨w.heap.size, 1, none⟩ = some (.bool b) := (blk_cell hrx 1).trans rfl
      have c2 : wr.cell? ⟨w.heap.size, 2, none⟩ = some (.bool l) := (blk_cell hrx 2).trans rfl
      clear hrx
      unfold mvI at hms
      go_wp2_with (first
        | (go_at_call 42; refine (impl_movesBy.calls 2000 x o b l ms _ hms).mono ?_; rintro e w5 ⟨v5, rfl, ho5, hb5⟩; obtain ⟨Am, cm, hzm⟩ := Kd.R_slice ho5; subst hzm; have HC5 := Aside0.mk (show w6.grownBy w5 (some bm) ∧ MapT Try.prog 9 w5 bm N U ∧ (∀ y ∈ N, U y ∈ N) ∧ Kd.R k58 58 w5 w.heap.size TI_ (.slice Am ms.length cm) ms from ⟨HW.out.1.trans (grown_of hb5 _), HW.out.2.1.below hb5, HW.out.2.2, Kd.R_lower ho5 (Nat.le_trans AX.out.1.size HW.out.1.size)⟩); clear HW c0 c1 c2 hx ho5 hb5 hms))
      go_loopw [13, 45] (fun x13 x45 wq => ∃ (j p : Nat) (U : ByteArray → ByteArray), x13 = .int .i64 (p : Int) ∧ x45 = .int .i64 (j : Int) ∧ j ≤ ms.length ∧ p ≤ 1000000 ∧ Hid (Uf.innG 200000000 (mkI x) (okI N) x (ms.drop j) U p = some (U2, p2)) ∧ Aside0 (w6.grownBy wq (some bm) ∧ MapT Try.prog 9 wq bm N U ∧ (∀ y ∈ N, U y ∈ N) ∧ Kd.R k58 58 wq w.heap.size TI_ (.slice Am ms.length cm) ms)) (fun _ x45 _ => ms.length - (RowKit.intOf x45).toNat)
      case atStart => exact ⟨0, p, U, rfl, rfl, Nat.zero_le _, hp, HV, HC5⟩
      case round =>
        clear HV HC5 hp hdec
        obtain ⟨j, pj, Uj, rfl, rfl, hj, hpj, HV, HC⟩ := hrel
        have hv := HV.out
        by_cases hjl : j < ms.length
        · have hdec : decide ((j : Int) < (ms.length : Int)) = true := decide_eq_true (by omega)
          have hj0 : (0 : Int) ≤ (j : Int) := Int.natCast_nonneg _
          obtain ⟨gm, cm', hvm⟩ := pi_form HC.out.2.2.2 (by omega)
          injection hvm with hA _ hcm
          subst hA
          subst hcm
          obtain ⟨ad, ead, hx0, hx1⟩ := at_T58 (Kd.R_reads' HC.out.2.2.2).2.2 (j : Int) (by omega) (by omega)
          have hd : ms.drop j = rd_T58 ms (j : Int) :: ms.drop (j + 1) := by
            rw [List.drop_eq_getElem_cons hjl]
            unfold rd_T58
            rw [Int.toNat_natCast, List.getD_eq_getElem?_getD, List.getElem?_eq_getElem hjl]
            rfl
          rw [hd] at hv
          rw [Int.toNat_natCast] at hx0 hx1
          clear hd HV
          cases ead
          generalize rd_T58 ms (j : Int) = m at *
          obtain ⟨f', t'⟩ := m
          replace hx0 : wr.cell? ⟨gm, j * 2, none⟩ = some (.int .i64 f') := by rw [Addr.add_lit, Nat.zero_add] at hx0; exact hx0
          replace hx1 : wr.cell? ⟨gm, j * 2 + 1, none⟩ = some (.int .i64 t') := by rw [Addr.add_lit, Nat.zero_add] at hx1; exact hx1
          rw [Uf.innG] at hv
          obtain ⟨⟨q1, V1⟩, hq1, hv⟩ := Option.bind_eq_some_iff.mp hv
          obtain ⟨y, hy, hv⟩ := Option.bind_eq_some_iff.mp hv
          by_cases hok : okI N y = true
          case neg => rw [if_neg hok] at hv; cases hv
          rw [if_pos hok] at hv
          obtain ⟨⟨q2, V2⟩, hq2, hv⟩ := Option.bind_eq_some_iff.mp hv
          have hyN : y ∈ N := Pm.inN_iff.1 hok
          obtain ⟨hi1, hi2⟩ := Uf.rootU_in _ _ _ _ _ HC.out.2.2.1 HXN.out hq1
          obtain ⟨hi3, hi4⟩ := Uf.rootU_in _ _ _ _ _ hi2 hyN hq2
          have HI := Aside0.mk (And.intro hi1 (And.intro hi3 hi4))
          have HQ1 := Lib.hid hq1
          have HQ2 := Aside0.mk (And.intro hq2 (And.intro hyN hi2))
          have HY : Hid (impl_made.f x f' t' = some y) := Lib.hid hy
          clear hq1 hq2 hy hok hyN hi1 hi2 hi3 hi4
          have HVV := Lib.hid hv
          clear hv
          go_wp2_with fail
          have hb4 : Below wr.heap.size wr (wr.alloc (.cells #[.int .i64 f', .int .i64 t'] 58 (0, 0))).drew := below_drew1 (below_alloc (Below.refl _ _) _)
          have hbx : (wr.alloc (.cells #[.int .i64 f', .int .i64 t'] 58 (0, 0))).drew.heap[wr.heap.size]? = some (.cells #[.int .i64 f', .int .i64 t'] 58 (0, 0)) := blk_drew (blk_new wr _)
          have hg4 := HC.out.1.trans (grown_of hb4 _)
          have hM4 := HC.out.2.1.below hb4
          have hR4 := Kd.R_below HC.out.2.2.2 hb4
          have hB4 := AX.out.2.1.grown hg4 AX.out.2.2.2.2.2.2
          have hcr4 : (wr.alloc (.cells #[.int .i64 f', .int .i64 t'] 58 (0, 0))).drew.cell? ⟨br, 0, none⟩ = some (.func (.func 51) #[] #[.pointer (some ⟨bu, 0, none⟩), .pointer (some ⟨br, 0, none⟩)]) := (blk_cell hB4.r 0).trans rfl
          have hUU := HC.out.2.2.1
          clear hb4 HC hx0 hx1
          skip
          refine start_ (n := 10) (S := fun w' => w'.cell? ⟨br, 0, none⟩ = some (.func (.func 51) #[] #[.pointer (some ⟨bu, 0, none⟩), .pointer (some ⟨br, 0, none⟩)]) ∧ w'.cell? ⟨wr.heap.size, 0, none⟩ = some (.int .i64 f') ∧ w'.cell? ⟨wr.heap.size, 1, none⟩ = some (.int .i64 t')) (ds := []) #[false, false, false, false, false, false, false, false, false, false] (by kernel_rfl) rfl rfl ⟨hcr4, (blk_cell hbx 0).trans rfl, (blk_cell hbx 1).trans rfl⟩ (fun hHeld => ?_)
          generalize (wr.alloc (.cells #[.int .i64 f', .int .i64 t'] 58 (0, 0))).drew = W4 at *
          refine take_ (i := 0) (N := some 49) (v := ?_) (a' := ?_) #[true, false, false, false, false, false, false, false, false, false] rfl rfl (by kernel_rfl) (fun _ _ _ h => h) (Or.inl ⟨by rfl, ?_⟩) hHeld ?_ ?_
          rotate_left
          · rintro w' ⟨s0, s1, s2⟩
            go_simp
            with_reducible rfl
          rotate_left
          · simp only [Act.put, List.setIfInBounds_toArray, List.set_cons_zero, List.set_cons_succ, i64_w, i32_w]
            rfl
          refine pure_ (i := 1) (N := some 50) (v := ?_) (a' := ?_) #[true, true, false, false, false, false, false, false, false, false] rfl rfl (by kernel_rfl) (fun _ _ _ h => h) (Or.inl ⟨by rfl, ?_⟩) ?_ ?_
          rotate_left
          · intro w'
            go_simp
            with_reducible rfl
          rotate_left
          · simp only [Act.put, List.setIfInBounds_toArray, List.set_cons_zero, List.set_cons_succ, i64_w, i32_w]
            rfl
          refine take_ (i := 3) (N := some 52) (v := ?_) (a' := ?_) #[true, true, false, true, false, false, false, false, false, false] rfl rfl (by kernel_rfl) (fun _ _ _ h => h) (Or.inl ⟨by rfl, ?_⟩) hHeld ?_ ?_
          rotate_left
          · rintro w' ⟨s0, s1, s2⟩
            go_simp
            with_reducible rfl
          rotate_left
          · simp only [Act.put, List.setIfInBounds_toArray, List.set_cons_zero, List.set_cons_succ, i64_w, i32_w]
            rfl
          refine pure_ (i := 4) (N := some 53) (v := ?_) (a' := ?_) #[true, true, false, true, true, false, false, false, false, false] rfl rfl (by kernel_rfl) (fun _ _ _ h => h) (Or.inl ⟨by rfl, ?_⟩) ?_ ?_
          rotate_left
          · intro w'
            go_simp
            with_reducible rfl
          rotate_left
          · simp only [Act.put, List.setIfInBounds_toArray, List.set_cons_zero, List.set_cons_succ, i64_w, i32_w]
            rfl
          refine take_ (i := 5) (N := some 54) (v := ?_) (a' := ?_) #[true, true, false, true, true, true, false, false, false, false] rfl rfl (by kernel_rfl) (fun _ _ _ h => h) (Or.inl ⟨by rfl, ?_⟩) hHeld ?_ ?_
          rotate_left
          · rintro w' ⟨s0, s1, s2⟩
            go_simp
            with_reducible rfl
          rotate_left
          · simp only [Act.put, List.setIfInBounds_toArray, List.set_cons_zero, List.set_cons_succ, i64_w, i32_w]
            rfl
          refine one_ (i := 2) (N := some 51) #[true, true, true, true, true, true, false, false, false, false] rfl rfl (by kernel_rfl) (by decide) (fun K hK => ?_)
          refine goesV_ Try.func51 (by kernel_rfl) rfl #[.string x, .pointer (some ⟨bu, 0, none⟩), .pointer (some ⟨br, 0, none⟩)] (by rfl) rfl rfl (by rfl) (by (try simp only [List.map_toArray, List.map_cons, List.map_nil]); first | done | rfl) ?_
          refine (root_walk N HD.out.2.1 HN.out bu br bm 200000000 Uj x q1 V1 W4 HQ1.out HXN.out hUU hB4 hM4).mono ?_
          rintro e5 W5 ⟨rfl, hM5, hz5⟩
          refine ⟨_, rfl, ?_⟩
          have hg5 := hz5
          have hbx5 := blk_grown hbx hz5 (fun e => hM4.ne_cells hbx (Option.some.inj e).symm)
          have hB5 := hB4.grown hz5 hM4
          have hR5 := R_map hR4 hz5 hM4
          refine hK.out _ _ ⟨(blk_cell hB5.r 0).trans rfl, (blk_cell hbx5 0).trans rfl, (blk_cell hbx5 1).trans rfl⟩ (fun hHeld => ?_)
          clear hK K
          refine norm_ (a' := ?_) ?_ ?_
          rotate_left
          · show Act.put _ (some 51) _ = _
            simp only [Act.put, List.setIfInBounds_toArray, List.set_cons_zero, List.set_cons_succ, i64_w, i32_w]
            rfl
          clear hbx hB4 hM4 hR4 hcr4 hUU
          have hg5' := hg4.trans hg5
          clear hg4 hg5
          refine one_ (i := 6) (N := some 55) #[true, true, true, true, true, true, true, false, false, false] rfl rfl (by kernel_rfl) (by decide) (fun K hK => ?_)
          refine goes_ Try.func53 (by kernel_rfl) rfl #[.string x, .agg #[.int .i64 f', .int .i64 t']] (by rfl) rfl rfl (by (try simp only [List.map_toArray, List.map_cons, List.map_nil]); first | done | rfl) ?_
          with_reducible refine (impl_made.calls x f' t' y _ HY.out).mono ?_
          rintro e6 W6 ⟨rfl, hy6⟩
          refine ⟨_, rfl, ?_⟩
          have hbx6 := blk_below hbx5 hy6
          have hB6 := hB5.below hy6
          have hM6 := hM5.below hy6
          have hR6 := Kd.R_below hR5 hy6
          have hg6 := hg5'.trans (grown_of hy6 _)
          clear hbx5 hB5 hM5 hR5 hg5' hy6
          refine hK.out _ _ ⟨(blk_cell hB6.r 0).trans rfl, (blk_cell hbx6 0).trans rfl, (blk_cell hbx6 1).trans rfl⟩ (fun hHeld => ?_)
          clear hK K
          refine norm_ (a' := ?_) ?_ ?_
          rotate_left
          · show Act.put _ (some 55) _ = _
            simp only [Act.put, List.setIfInBounds_toArray, List.set_cons_zero, List.set_cons_succ, i64_w, i32_w]
            rfl
          refine one_ (i := 7) (N := some 56) #[true, true, true, true, true, true, true, true, false, false] rfl rfl (by kernel_rfl) (by decide) (fun K hK => ?_)
          refine goesV_ Try.func51 (by kernel_rfl) rfl #[.string y, .pointer (some ⟨bu, 0, none⟩), .pointer (some ⟨br, 0, none⟩)] (by rfl) rfl rfl (by rfl) (by (try simp only [List.map_toArray, List.map_cons, List.map_nil]); first | done | rfl) ?_
          refine (root_walk N HD.out.2.1 HN.out bu br bm 200000000 V1 y q2 V2 W6 HQ2.out.1 HQ2.out.2.1 HQ2.out.2.2 hB6 hM6).mono ?_
          rintro e7 W7 ⟨rfl, hM7, hz7⟩
          refine ⟨_, rfl, ?_⟩
          have hg7 := hz7
          have hbx7 := blk_grown hbx6 hz7 (fun e => hM6.ne_cells hbx6 (Option.some.inj e).symm)
          have hB7 := hB6.grown hz7 hM6
          have hR7 := R_map hR6 hz7 hM6
          refine hK.out _ _ ⟨(blk_cell hB7.r 0).trans rfl, (blk_cell hbx7 0).trans rfl, (blk_cell hbx7 1).trans rfl⟩ (fun hHeld => ?_)
          clear hK K
          refine norm_ (a' := ?_) ?_ ?_
          rotate_left
          · show Act.put _ (some 56) _ = _
            simp only [Act.put, List.setIfInBounds_toArray, List.set_cons_zero, List.set_cons_succ, i64_w, i32_w]
            rfl
          clear hbx6 hB6 hM6 hR6
          refine pure_ (i := 8) (N := some 18) (v := ?_) (a' := ?_) #[true, true, true, true, true, true, true, true, true, false] rfl rfl (by kernel_rfl) (fun _ _ _ h => h) (Or.inl ⟨by rfl, ?_⟩) ?_ ?_
          rotate_left
          · intro w'
            go_simp
            with_reducible rfl
          rotate_left
          · simp only [Act.put, List.setIfInBounds_toArray, List.set_cons_zero, List.set_cons_succ, i64_w, i32_w]
            rfl
          refine pure_ (i := 9) (N := some 19) (v := ?_) (a' := ?_) #[true, true, true, true, true, true, true, true, true, true] rfl rfl (by kernel_rfl) (fun _ _ _ h => h) (Or.inl ⟨by rfl, ?_⟩) ?_ ?_
          rotate_left
          · intro w'
            go_simp
            with_reducible rfl
          rotate_left
          · simp only [Act.put, List.setIfInBounds_toArray, List.set_cons_zero, List.set_cons_succ, i64_w, i32_w]
            rfl
          refine done_ (by kernel_rfl) ?_
          have HE := Aside0.mk (And.intro (hg6.trans hg7) (And.intro hM7 (And.intro HI.out.2.2 hR7)))
          have hcu7 : W7.cell? ⟨bu, 0, none⟩ = some (.map (some bm)) := (blk_cell hB7.u 0).trans rfl
          clear hbx7 hHeld hR7 hg6 hg7 hB7
          have hv := HVV.out
          by_cases hqq : q1 = q2
          · subst hqq
            rw [if_pos rfl] at hv
            have HV2 := Lib.hid hv
            have hbe : (q1.toList == q1.toList) = true := beq_self_eq_true _
            clear hv HVV hM7
            go_wp2
            exact ⟨⟨j + 1, pj, V2, rfl, rfl, by omega, hpj, HV2, HE⟩, by simp [RowKit.intOf]; omega⟩
          · rw [if_neg hqq] at hv
            by_cases hp1 : 1 ≤ pj
            case neg => rw [if_neg hp1] at hv; cases hv
            rw [if_pos hp1] at hv
            have HV2 := Lib.hid hv
            have hbe : (q1.toList == q2.toList) = false := beq_eq_false_iff_ne.2 (fun e => hqq (tl_injP e))
            have hl1 := HD.out.2.1 q1 HI.out.1
            have hl2 := HD.out.2.1 q2 HI.out.2.1
            obtain ⟨W8, hrun, hM8, hg8⟩ := hM7.put_old (T := 62) Try.underlying9 Try.underlying62 q1 q2 (by unfold maxLen; omega) (by unfold maxLen; omega) HN.out HI.out.1
            have HE8 := Aside0.mk (And.intro (HE.out.1.trans hg8) (And.intro hM8 (And.intro (show ∀ y ∈ N, Uf.upd V2 q1 q2 y ∈ N from fun y hy => by unfold Uf.upd; split; exact HI.out.2.1; exact HE.out.2.2.1 y hy) (R_map HE.out.2.2.2 hg8 hM7))))
            obtain ⟨p', rfl⟩ : ∃ p', pj = p' + 1 := ⟨pj - 1, by omega⟩
            clear hv HVV hM7 hM8 hg8 hqq hl1 hl2 HE
            go_wp2
            exact ⟨⟨j + 1, p', Uf.upd V2 q1 q2, by first | rfl | (congr 1; omega), rfl, by omega, by omega, HV2, HE8⟩, by simp [RowKit.intOf]; omega⟩
        · obtain rfl : j = ms.length := by omega
          have hdec : decide ((ms.length : Int) < (ms.length : Int)) = false := decide_eq_false (by omega)
          rw [List.drop_length, Uf.innG] at hv
          cases hv
          clear HV
          go_wp2
          exact ⟨⟨i + 1, p2, U2, rfl, rfl, by omega, hpj, HS2, Aside0.mk ⟨HC.out.1, HC.out.2.1, HC.out.2.2.1⟩⟩, by simp [RowKit.intOf]; omega⟩
    · obtain rfl : i = N.length := by omega
      have hdec : decide ((N.length : Int) < (N.length : Int)) = false := decide_eq_false (by omega)
      rw [List.drop_length, Uf.outG] at hs
      cases hs
      clear HS
      go_wp2
      go_ret2
      exact ⟨rfl, AX.out.1.grown HW.out.1 AX.out.1.size (fun k e => by cases e; exact AX.out.2.2.2.2.1)⟩
end
/-- how many parts the program counts -/
def impl_PartsByRule.f (a0 a1 a2 : Int) (a3_0 a3_1 a3_2 : Bool) : Option (Int × Bool) := (impl_areCounts.f a0 a1 a2 8).bind fun r => if r = true then (if 0 ≤ a0 ∧ 0 ≤ a1 ∧ 0 ≤ a2 ∧ a0 + a1 + a2 ≤ 12 then (if (linesAt (a0.toNat + a1.toNat + a2.toNat) a0.toNat a1.toNat a2.toNat []).Nodup ∧ (∀ s ∈ linesAt (a0.toNat + a1.toNat + a2.toNat) a0.toNat a1.toNat a2.toNat [], s.size ≤ 1000) ∧ (linesAt (a0.toNat + a1.toNat + a2.toNat) a0.toNat a1.toNat a2.toNat []).length ≤ 1000000 then ((Go.Proofs.Ytpelhinjoambfaa.Uf.outG 200000000 (mvI a3_0 a3_1 a3_2) mkI (okI (linesAt (a0.toNat + a1.toNat + a2.toNat) a0.toNat a1.toNat a2.toNat [])) (linesAt (a0.toNat + a1.toNat + a2.toNat) a0.toNat a1.toNat a2.toNat []) (fun x => x) (linesAt (a0.toNat + a1.toNat + a2.toNat) a0.toNat a1.toNat a2.toNat []).length).bind fun s => some ((s.2 : Int), true)) else none) else none) else some (0, false)
theorem impl_PartsByRule.calls (a0 a1 a2 : Int) (a3_0 a3_1 a3_2 : Bool) (r1 : Int) (r2 : Bool) (w : World) (h : impl_PartsByRule.f a0 a1 a2 a3_0 a3_1 a3_2 = some (r1, r2)) :
    Calls Try.prog 23 #[.int .i64 a0, .int .i64 a1, .int .i64 a2, .agg #[.bool a3_0, .bool a3_1, .bool a3_2]] w fun e w' => e = .returned (.tuple #[.int .i64 r1, .bool r2]) ∧ Below w.heap.size w w' := by
  unfold impl_PartsByRule.f at h
  obtain ⟨r, hr, h⟩ := Option.bind_eq_some_iff.mp h
  cases r with
  | false =>
    rw [if_neg (by decide)] at h
    cases h
    exact impl_PartsByRule.no_ _ _ _ a0 a1 a2 w hr
  | true =>
    rw [if_pos rfl] at h
    split at h
    case isFalse => cases h
    rename_i hh
    obtain ⟨t, rfl⟩ : ∃ t : Nat, a0 = (t : Int) := ⟨a0.toNat, (Int.toNat_of_nonneg hh.1).symm⟩
    obtain ⟨g, rfl⟩ : ∃ g : Nat, a1 = (g : Int) := ⟨a1.toNat, (Int.toNat_of_nonneg hh.2.1).symm⟩
    obtain ⟨f, rfl⟩ : ∃ f : Nat, a2 = (f : Int) := ⟨a2.toNat, (Int.toNat_of_nonneg hh.2.2.1).symm⟩
    rw [Int.toNat_natCast, Int.toNat_natCast, Int.toNat_natCast] at h
    split at h
    case isFalse => cases h
    rename_i hl
    obtain ⟨S9, hS, h⟩ := Option.bind_eq_some_iff.mp h
    cases h
    exact impl_PartsByRule.walk _ _ _ t g f _ S9 w hr (by omega) rfl hl.1 hl.2.1 hl.2.2 hS


end Go.Proofs.Ytpelhinjoambfaa.XP
