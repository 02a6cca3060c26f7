/- The Lean functions that the Go functions of this seat compute, each with the proof that the Go function computes it, for every input (laws: FnExactShortestByRule). Conditions: none beyond those that each theorem names. Written by a program of this session over the kit's printer. -/
import Derived.Test.YtjgijaocinpkhaaDoorXD0
import Derived.Test.YtjgijaocinpkhaaDoorXD1
import Derived.Test.YtjgijaocinpkhaaDoorXD2
import Derived.Test.YtjgijaocinpkhaaDoorXD7
import Derived.Test.YtjgijaocinpkhaaDoorXD9
namespace Go.Proofs.YtjgijaocinpkhaaDoor.XD
open Go.RowKit Go.Proofs.YtjgijaocinpkhaaDoorW.PrintWords Go.Proofs.YtjgijaocinpkhaaDoorW.PrintLast Go.Proofs.YtjgijaocinpkhaaDoorW.PrintMore
attribute [local go_sem] max2_int min2_int max_two min_two max_three min_three max_four min_four   -- for this text's walks alone
attribute [local go_sem] Lib.run_min_strs Go.Proofs.YtjgijaocinpkhaaDoorXW.run_min2_strs Go.Proofs.YtjgijaocinpkhaaDoorXW.run_int_string
set_option linter.unusedVariables false
set_option linter.unusedSimpArgs false

/-! ### impl_paths_play: function 71 (given) -/
section
open Go Go.RowKit Go.Lib Go.Proofs.YtjgijaocinpkhaaDoorW.PrintWords Go.Proofs.YtjgijaocinpkhaaDoorW.PrintLast Go.Proofs.YtjgijaocinpkhaaDoor.Pm
/-- each text was found from one before it, in what impl_pathsFrom.walk finds (its own impl_pathsFrom.f is none) -/
def Par (E : List PEnt) : Prop := ∀ (j : Nat) (e : PEnt), E[j]? = some e → e.par < (j : Int)
theorem back_fuel {E : List PEnt} (hp : Par E) : ∀ (k k' j : Nat), j < k → j < k' → Bfs.back E k j = Bfs.back E k' j
  | 0, _, _, h, _ => by omega
  | _, 0, _, _, h => by omega
  | k + 1, k' + 1, j, h, h' => by
    unfold Bfs.back
    cases he : E[j]? with
    | none => rfl
    | some e =>
      simp only
      have := hp j e he
      by_cases h0 : e.par < 0
      · rw [if_pos h0, if_pos h0]
      · rw [if_neg h0, if_neg h0, back_fuel hp k k' e.par.toNat (by omega) (by omega)]
theorem back_go {E : List PEnt} (hp : Par E) {q p : Nat} {e : PEnt} (he : E[q]? = some e) (h : e.par = (p : Int)) : Bfs.back E (q + 1) q = e.mov :: Bfs.back E (p + 1) p := by
  have h1 := hp q e he
  have h2 : Bfs.back E (q + 1) q = e.mov :: Bfs.back E q e.par.toNat := by
    rw [Bfs.back, he]
    simp only
    rw [if_neg (by omega)]
  rw [h2, h, Int.toNat_natCast, back_fuel hp q (p + 1) p (by omega) (by omega)]
theorem back_end {E : List PEnt} {q : Nat} {e : PEnt} (he : E[q]? = some e) (h : e.par < 0) : Bfs.back E (q + 1) q = [] := by
  rw [Bfs.back, he]
  simp only
  rw [if_pos h]
theorem pars_rd {E : List PEnt} {i : Nat} {e : PEnt} (h : E[i]? = some e) : rdOf 0 (E.map (·.par)) (i : Int) = e.par := by
  unfold rdOf
  rw [Int.toNat_natCast, List.getD_eq_getElem?_getD, List.getElem?_map, h]
  rfl
theorem movs_rd {E : List PEnt} {i : Nat} {e : PEnt} (h : E[i]? = some e) : rd_T83 (E.map (·.mov)) (i : Int) = e.mov := by
  unfold rd_T83
  rw [Int.toNat_natCast, List.getD_eq_getElem?_getD, List.getElem?_map, h]
  rfl
def mvCells (m : S83) : List Value := [.int .i64 m.f0, .int .i64 m.f1]
theorem impl_paths_play.rev {e base : Nat} (w : World) (A : Option Addr) (c : Nat) (l : List S83) (h : Kd.R k83 e w base (fun _ => True) (.slice A l.length c) l) (hl : l.length ≤ 1000000000) :
    Calls Tryd.prog 97 #[.slice A l.length c] w fun ee w' => ee = .returned (.tuple #[]) ∧ Kd.R k83 e w' base (fun _ => True) (.slice A l.length c) l.reverse ∧ w.grownBy w' (Value.slice A l.length c).ownBlock :=
  haveI : Inhabited S83 := ⟨⟨0, 0⟩⟩
  Rev.reverse_call (enc := mvCells) Tryd.laysRev (fun _ => by kernel_rfl) (fun _ => by kernel_rfl) (fun _ => rfl) (fun x v hv => by
    unfold mvCells at hv
    simp only [List.mem_cons, List.not_mem_nil, or_false] at hv
    rcases hv with rfl | rfl <;> rfl) k83 rfl (fun _ _ _ _ _ hm => k83_openM hm) (fun w b ok x => k83_mkM w b ok x) h hl
set_option maxHeartbeats 4000000 in
set_option maxRecDepth 1000000 in
theorem impl_paths_play.no_ (v : Value) (E : List PEnt) (y : ByteArray) (hy : y.size ≤ 1000) (w0 w : World) (hP : PathsAt w0 w v E) (hn : inN y (Bfs.nodes E) = false) :
    Calls Tryd.prog 71 #[v, .string y] w fun e w' => e = .returned (.tuple #[.slice none 0 0, .bool false]) ∧ Below w.heap.size w w' := by
  obtain ⟨bm, v0, v2, v3, v4, rfl, hl, hm, r0, r2, r3, r4, hne⟩ := hP
  have hu := Tryd.underlying67
  obtain ⟨A0, n0, k0, z0⟩ := R_any r0
  obtain ⟨A2, n2, k2, z2⟩ := R_any r2
  obtain ⟨A3, n3, k3, z3⟩ := R_any r3
  obtain ⟨A4, n4, k4, z4⟩ := R_any r4
  subst z0; subst z2; subst z3; subst z4
  obtain ⟨cl, hlook, _⟩ := (hm.alloc (.cells #[(.slice A0 n0 k0), .map (some bm), (.slice A2 n2 k2), (.slice A3 n3 k3), (.slice A4 n4 k4)] 67 (0, 0))).look (T := 64) Tryd.underlying9 Tryd.underlying64 Tryd.underlying3 (by kernel_rfl) y (by unfold maxLen; omega)
  rw [hn] at hlook
  have hB := below_alloc (Below.refl w.heap.size w) (.cells #[(.slice A0 n0 k0), .map (some bm), (.slice A2 n2 k2), (.slice A3 n3 k3), (.slice A4 n4 k4)] 67 (0, 0))
  clear r0 r2 r3 r4 hne hm
  go_enter Tryd.func71, Tryd.ntmps71
  go_wp2
  go_ret2
  exact ⟨rfl, hB⟩
set_option maxHeartbeats 4000000 in
set_option maxRecDepth 1000000 in
theorem impl_paths_play.walk (v : Value) (E : List PEnt) (y : ByteArray) (hy : y.size ≤ 1000) (w0 w : World) (hP : PathsAt w0 w v E) (hE : E.length ≤ 1000000) (hp : Par E) (j : Nat) (hj : (Bfs.nodes E)[j]? = some y) :
    Calls Tryd.prog 71 #[v, .string y] w fun e w' => (∃ v', e = .returned (.tuple #[v', .bool true]) ∧ Kd.R k83 83 w' w.heap.size (fun _ => True) v' (Bfs.back E (j + 1) j).reverse) ∧ Below w.heap.size w w' := by
  obtain ⟨bm, v0, v2, v3, v4, rfl, hl, hm, r0, r2, r3, r4, hne⟩ := hP
  have hu := Tryd.underlying67
  have hjl : j < E.length := by
    have := (List.getElem?_eq_some_iff.1 hj).1
    rwa [nodes_len] at this
  obtain ⟨A0, n0, k0, z0⟩ := R_any r0
  obtain ⟨g2, k2, z2⟩ := R_form r2 (by rw [List.length_map]; omega)
  obtain ⟨g3, k3, z3⟩ := R_form r3 (by rw [List.length_map]; omega)
  obtain ⟨A4, n4, k4, z4⟩ := R_any r4
  rw [List.length_map] at z2 z3
  subst z0; subst z2; subst z3; subst z4
  obtain ⟨cl, hlook, hcl⟩ := (hm.alloc (.cells #[(.slice A0 n0 k0), .map (some bm), (.slice (some ⟨g2, 0, none⟩) E.length k2), (.slice (some ⟨g3, 0, none⟩) E.length k3), (.slice A4 n4 k4)] 67 (0, 0))).look (T := 64) Tryd.underlying9 Tryd.underlying64 Tryd.underlying3 (by kernel_rfl) y (by unfold maxLen; omega)
  rw [inN_iff.2 (List.mem_of_getElem? hj), hcl j hj] at hlook
  have hB := below_alloc (Below.refl w.heap.size w) (.cells #[(.slice A0 n0 k0), .map (some bm), (.slice (some ⟨g2, 0, none⟩) E.length k2), (.slice (some ⟨g3, 0, none⟩) E.length k3), (.slice A4 n4 k4)] 67 (0, 0))
  have hb := blk_new w (.cells #[(.slice A0 n0 k0), .map (some bm), (.slice (some ⟨g2, 0, none⟩) E.length k2), (.slice (some ⟨g3, 0, none⟩) E.length k3), (.slice A4 n4 k4)] 67 (0, 0))
  have R2 := Aside0.mk r2
  have R3 := Aside0.mk r3
  have HE := Aside0.mk hE
  have HPar := Aside0.mk hp
  clear r0 r2 r3 r4 hne hm hcl hj hp
  go_enter Tryd.func71, Tryd.ntmps71
  go_wp2_with (first
    | ((with_reducible refine gate_dst (N := 18) rfl ?_); refine Kd.R_lit (w0 := w) k83 w.heap.size 83 ?hg (N := 18) ?hd (xs := ([] : List S83)) (inner := []) (ok := fun _ => True) (okp := fun _ => True) ?hr ?hp (fun _ hk => hk) trivial hB (below_size hB) (by simp) ?_; (case hd => rfl); (case hg => rfl); (case hr => first | (go_simp; done) | (go_simp; rfl)); (case hp => exact (Reps.none _ _)); intro v8 w1 ho1 hb1 hg1 hx1; have hb2 := blk_grown hb hg1 (by simp); clear hx1 hg1 hlook hb hB))
  go_loopw [6, 8] (fun x6 x8 wr => ∃ (q : Nat) (l : List S83), x6 = .int .i64 (q : Int) ∧ q < E.length ∧ Aside0 (Kd.R k83 83 wr w.heap.size (fun _ => True) x8 l) ∧ Hid (l ++ Bfs.back E (q + 1) q = Bfs.back E (j + 1) j) ∧ Aside0 (Below w.heap.size w wr) ∧
      Aside0 (wr.heap[w.heap.size]? = some (.cells #[(.slice A0 n0 k0), .map (some bm), (.slice (some ⟨g2, 0, none⟩) E.length k2), (.slice (some ⟨g3, 0, none⟩) E.length k3), (.slice A4 n4 k4)] 67 (0, 0))) ∧ Hid (l.length + q ≤ j)) (fun x6 _ _ => (RowKit.intOf x6).toNat)
  case atStart => exact ⟨j, [], rfl, hjl, Aside0.mk ho1, Lib.hid (List.nil_append _), Aside0.mk hb1, Aside0.mk hb2, Lib.hid (by simp)⟩
  case round =>
    clear ho1 hb1 hb2
    obtain ⟨q, l, rfl, hq, HR, HL, HB, HX, HN⟩ := hrel
    obtain ⟨e, he⟩ : ∃ e, E[q]? = some e := ⟨_, List.getElem?_eq_getElem hq⟩
    have hq0 : (0 : Int) ≤ (q : Int) := Int.natCast_nonneg _
    have hqd : decide ((q : Int) < (E.length : Int)) = true := decide_eq_true (by omega)
    have hc := R_icell (Kd.R_below R2.out HB.out) (q : Int) hq0 (by omega)
    rw [Int.toNat_natCast, pars_rd he] at hc
    have hx1 : wr.cell? ⟨w.heap.size, 2, none⟩ = some (.slice (some ⟨g2, 0, none⟩) E.length k2) := (blk_cell HX.out 2).trans rfl
    have hx2 : wr.cell? ⟨w.heap.size, 3, none⟩ = some (.slice (some ⟨g3, 0, none⟩) E.length k3) := (blk_cell HX.out 3).trans rfl
    by_cases h0 : e.par < 0
    · have hd1 : decide (e.par ≥ 0) = false := decide_eq_false (by omega)
      have hd2 : decide (0 ≤ e.par) = false := decide_eq_false (by omega)
      have hll : l = Bfs.back E (j + 1) j := by
        have := HL.out
        rw [back_end he h0, List.append_nil] at this
        exact this
      obtain ⟨A8, k8, z8⟩ := Kd.R_slice HR.out
      subst z8
      have hHN := HN.out
      have HLL := Lib.hid hll
      clear HN HL hll
      go_wp2_with (first | (go_at_call 97; refine (impl_paths_play.rev wr A8 k8 l HR.out (by omega)).mono ?_; rintro e' w3 ⟨rfl, hr3, hg3⟩))
      go_ret2
      refine ⟨⟨_, rfl, ?_⟩, HB.out.grown hg3 HB.out.size (fun k hk => Kd.R_base HR.out k hk)⟩
      rw [← HLL.out]
      exact hr3
    · obtain ⟨p, hp⟩ : ∃ p : Nat, e.par = (p : Int) := ⟨e.par.toNat, by omega⟩
      have hpq : p < q := by have := HPar.out q e he; omega
      have hd1 : decide ((p : Int) ≥ 0) = true := decide_eq_true (by omega)
      have hd2 : decide ((0 : Int) ≤ (p : Int)) = true := decide_eq_true (by omega)
      have hbk := back_go HPar.out he hp
      rw [hp] at hc
      obtain ⟨ad, ead, hy0, hy1⟩ := at_T83 (Kd.R_reads' (Kd.R_below R3.out HB.out)).2.2 (q : Int) (by omega) (by rw [List.length_map]; omega)
      rw [Int.toNat_natCast, movs_rd he] at hy0 hy1
      cases ead
      replace hy0 : wr.cell? ⟨g3, q * 2, none⟩ = some (.int .i64 e.mov.f0) := by rw [Addr.add_lit, Nat.zero_add] at hy0; exact hy0
      replace hy1 : wr.cell? ⟨g3, q * 2 + 1, none⟩ = some (.int .i64 e.mov.f1) := by rw [Addr.add_lit, Nat.zero_add] at hy1; exact hy1
      have hHE := HE.out
      have hHN := HN.out
      have HL2 : Hid ((l ++ [e.mov]) ++ Bfs.back E (p + 1) p = Bfs.back E (j + 1) j) := Lib.hid (by rw [← HL.out, hbk, List.append_assoc, List.singleton_append])
      obtain ⟨m, hmm⟩ : ∃ m, m = e.mov := ⟨_, rfl⟩
      rw [← hmm] at hy0 hy1 HL2
      clear hbk HN HL hmm
      go_wp2_with (first
        | ((with_reducible refine gate_builtin (b := .append) (xs := #[.tmp 30, .tmp 36]) rfl ?_); at_builtin; refine Kd.R_append k83 (w0 := w) w.heap.size rfl (.tmp 30) (.tmp 36) 46 83 (.agg #[.int .i64 0, .int .i64 0]) 16 rfl Tryd.underlying46 (by kernel_rfl) rfl (by decide) (by decide) _ l m [.int .i64 m.f0, .int .i64 m.f1] (fun _ => True) (fun _ => False) rfl rfl (k83_mkM _ _ _ m) (fun _ hk => hk.elim) (fun _ _ => trivial) HR.out HB.out HB.out.size (by omega) ?_; intro u3 w3 ho3 hb3 hg3 hat3; have hX3 := blk_grown HX.out hg3 (Kd.R_ne HR.out HX.out (by decide)); have hz1 : w3.cell? ⟨w.heap.size, 2, none⟩ = some (.slice (some ⟨g2, 0, none⟩) E.length k2) := (blk_cell hX3 2).trans rfl; have hc3 := R_icell (Kd.R_below R2.out hb3) (q : Int) hq0 (by omega); rw [Int.toNat_natCast, pars_rd he, hp] at hc3))
      exact ⟨⟨p, l ++ [m], rfl, by omega, Aside0.mk ho3, HL2, Aside0.mk hb3, Aside0.mk hX3, Lib.hid (by rw [List.length_append, List.length_singleton]; omega)⟩, by simp [RowKit.intOf]; omega⟩
end
def impl_paths_play.f (a0 : Int) : Option (Int) := none
theorem impl_paths_play.calls : True := trivial


/-! ### impl_FirstShortest: function 43 (given) -/
section
open Go Go.RowKit Go.Lib Go.Proofs.YtjgijaocinpkhaaDoorW.PrintWords Go.Proofs.YtjgijaocinpkhaaDoorW.PrintLast Go.Proofs.YtjgijaocinpkhaaDoor.Pm
theorem visitO_par {i d : Nat} {x : ByteArray} : ∀ (l : List S83) (E E' : List PEnt), visitO i d x l E = some E' → i < E.length → Par E → Par E' ∧ E.length ≤ E'.length
  | [], E, E', h, _, hp => by
    cases h
    exact ⟨hp, Nat.le_refl _⟩
  | m :: r, E, E', h, hi, hp => by
    rw [visitO] at h
    obtain ⟨y, _, h⟩ := Option.bind_eq_some_iff.mp h
    split at h
    case isFalse => cases h
    split at h
    · exact visitO_par r E E' h hi hp
    · split at h
      case isFalse => cases h
      obtain ⟨h1, h2⟩ := visitO_par r _ E' h (by rw [List.length_append]; omega) (fun j e he => by
        rcases Bfs.get_snoc he with he | ⟨rfl, rfl⟩
        · exact hp j e he
        · show (i : Int) < (E.length : Int)
          omega)
      rw [List.length_append] at h2
      exact ⟨h1, by omega⟩
theorem pathsO_par {M : ByteArray → Option (List S83)} : ∀ (k i : Nat) (E E' : List PEnt), pathsO M k i E = some E' → Par E → Par E'
  | 0, _, _, _, h, _ => by cases h
  | k + 1, i, E, E', h, hp => by
    rw [pathsO] at h
    cases he : E[i]? with
    | none =>
      rw [he] at h
      cases h
      exact hp
    | some e =>
      rw [he] at h
      simp only at h
      obtain ⟨ms, _, h⟩ := Option.bind_eq_some_iff.mp h
      split at h
      case isFalse => cases h
      obtain ⟨E1, hv, h⟩ := Option.bind_eq_some_iff.mp h
      exact pathsO_par k (i + 1) E1 E' h (visitO_par ms E E1 hv (Bfs.get_lt he) hp).1
theorem par_root (a : ByteArray) : Par [⟨a, -1, ⟨0, 0⟩, 0⟩] := fun j e he => by
  cases j with
  | zero => cases he; exact (by decide : (-1 : Int) < 0)
  | succ j => simp at he
theorem byRuleO_par {K : Nat} {a : ByteArray} {o b l : Bool} {E : List PEnt} (h : byRuleO K a o b l = some E) : Par E := by
  unfold byRuleO at h
  split at h
  · exact pathsO_par K 0 _ E h (par_root a)
  · cases h
/-- where a text stands first -/
def ixOf (y : ByteArray) (N : List ByteArray) : Nat := N.findIdx fun x => decide (x = y)
theorem ixOf_at {y : ByteArray} {N : List ByteArray} (h : y ∈ N) : N[ixOf y N]? = some y := by
  have hl : ixOf y N < N.length := List.findIdx_lt_length_of_exists ⟨y, h, by simp⟩
  have hp := List.findIdx_getElem (w := hl)
  rw [List.getElem?_eq_getElem hl]
  exact congrArg some (of_decide_eq_true hp)
/-- the first shortest way to a text -/
def playE (E : List PEnt) (y : ByteArray) : List S83 × Bool := if inN y (Bfs.nodes E) = true then ((Bfs.back E (ixOf y (Bfs.nodes E) + 1) (ixOf y (Bfs.nodes E))).reverse, true) else ([], false)
theorem playE_calls (v : Value) (E : List PEnt) (y : ByteArray) (hy : y.size ≤ 1000) (w0 w : World) (hP : PathsAt w0 w v E) (hE : E.length ≤ 1000000) (hp : Par E) :
    Calls Tryd.prog 71 #[v, .string y] w fun e w' => (∃ v', e = .returned (.tuple #[v', .bool (playE E y).2]) ∧ Kd.R k83 83 w' w.heap.size (fun _ => True) v' (playE E y).1) ∧ Below w.heap.size w w' := by
  cases hin : inN y (Bfs.nodes E) with
  | false =>
    have e : playE E y = ([], false) := by unfold playE; rw [if_neg (by rw [hin]; decide)]
    rw [e]
    exact (impl_paths_play.no_ v E y hy w0 w hP hin).mono fun e w' h => ⟨⟨_, h.1, Kd.R_nil _ _ _ _ _⟩, h.2⟩
  | true =>
    have e : playE E y = ((Bfs.back E (ixOf y (Bfs.nodes E) + 1) (ixOf y (Bfs.nodes E))).reverse, true) := by unfold playE; rw [if_pos hin]
    rw [e]
    exact impl_paths_play.walk v E y hy w0 w hP hE hp _ (ixOf_at (inN_iff.1 hin))
set_option maxHeartbeats 4000000 in
set_option maxRecDepth 1000000 in
theorem impl_FirstShortest.no1 (a c : ByteArray) (o b l : Bool) (w : World) (h : impl_isReachLine.f a = some false) :
    Calls Tryd.prog 43 #[.string a, .string c, .agg #[.bool o, .bool b, .bool l]] w fun e w' => e = .returned (.tuple #[.slice none 0 0, .bool false]) ∧ Below w.heap.size w w' := by
  go_enter Tryd.func43, Tryd.ntmps43
  go_wp2_with (first
    | (go_at_call 57; refine (impl_isReachLine.calls a false _ h).mono ?_; rintro e w1 ⟨rfl, hx⟩; have hb1 := below_step (below_alloc (Below.refl _ _) _) hx))
  go_ret2
  exact ⟨rfl, hb1⟩
set_option maxHeartbeats 4000000 in
set_option maxRecDepth 1000000 in
theorem impl_FirstShortest.no2 (a c : ByteArray) (o b l : Bool) (w : World) (h : impl_isReachLine.f a = some true) (h2 : impl_isReachLine.f c = some false) :
    Calls Tryd.prog 43 #[.string a, .string c, .agg #[.bool o, .bool b, .bool l]] w fun e w' => e = .returned (.tuple #[.slice none 0 0, .bool false]) ∧ Below w.heap.size w w' := by
  go_enter Tryd.func43, Tryd.ntmps43
  go_wp2_with (first
    | (go_at_call 57; refine (impl_isReachLine.calls a true _ h).mono ?_; clear h; rintro e w1 ⟨rfl, hx⟩; have hb1 := below_step (below_alloc (Below.refl _ _) _) hx; clear hx)
    | (go_at_call 57; refine (impl_isReachLine.calls c false _ h2).mono ?_; rintro e w2 ⟨rfl, hx⟩; have hb2 := below_step hb1 hx))
  go_ret2
  exact ⟨rfl, hb2⟩
set_option maxHeartbeats 4000000 in
set_option maxRecDepth 1000000 in
theorem impl_FirstShortest.walk (K : Nat) (a c : ByteArray) (hc : c.size ≤ 1000) (o b l : Bool) (E : List PEnt) (w : World) (h : impl_isReachLine.f a = some true) (h2 : impl_isReachLine.f c = some true) (hE : byRuleO K a o b l = some E) :
    Calls Tryd.prog 43 #[.string a, .string c, .agg #[.bool o, .bool b, .bool l]] w fun e w' => (∃ v', e = .returned (.tuple #[v', .bool (playE E c).2]) ∧ Kd.R k83 83 w' w.heap.size (fun _ => True) v' (playE E c).1) ∧ Below w.heap.size w w' := by
  have HPar := Aside0.mk (byRuleO_par hE)
  go_enter Tryd.func43, Tryd.ntmps43
  go_wp2_with (first
    | (go_at_call 57; refine (impl_isReachLine.calls a true _ h).mono ?_; clear h; rintro e w1 ⟨rfl, hx⟩; have hb1 := below_step (below_alloc (Below.refl _ _) _) hx; have hbx := blk_below (blk_new w (.cells #[.bool o, .bool b, .bool l] 32 (0, 0))) hx; clear hx)
    | (go_at_call 57; refine (impl_isReachLine.calls c true _ h2).mono ?_; rintro e w2 ⟨rfl, hx⟩; have hb2 := below_step hb1 hx; have hby := blk_below hbx hx; have c0 : w2.cell? ⟨w.heap.size, 0, none⟩ = some (.bool o) := (blk_cell hby 0).trans rfl; have c1 : w2.cell? ⟨w.heap.size, 1, none⟩ = some (.bool b) := (blk_cell hby 1).trans rfl; have c2 : w2.cell? ⟨w.heap.size, 2, none⟩ = some (.bool l) := (blk_cell hby 2).trans rfl; clear hx)
    | (go_at_call 58; refine (impl_byRule.walk K a o b l E _ hE).mono ?_; rintro e w3 ⟨v, rfl, hP, hpe, hy⟩; have hb3 := below_step hb2 hy; have HC := Aside0.mk (playE_calls v E c hc _ _ hP hpe.len HPar.out); clear hP hpe hy)
    | (go_at_call 71; refine HC.out.mono ?_; rintro e w4 ⟨⟨v', rfl, hr⟩, hy⟩; have hb4 := below_step hb3 hy; have hr4 := Kd.R_lower hr hb3.size; obtain ⟨A4, k4, z4⟩ := Kd.R_slice hr4; subst z4; clear hy hr))
  go_ret2
  exact ⟨⟨_, rfl, hr4⟩, hb4⟩
end
/-- the first shortest way by a rule -/
def impl_FirstShortest.f (a0 a1 : ByteArray) (a2_0 a2_1 a2_2 : Bool) : Option (List (S83) × Bool) := (impl_isReachLine.f a0).bind fun r => if r = true then ((impl_isReachLine.f a1).bind fun q => if q = true then (if a1.size ≤ 1000 then ((byRuleO 100000 a0 a2_0 a2_1 a2_2).bind fun E => some (playE E a1)) else none) else some ([], false)) else some ([], false)
theorem impl_FirstShortest.calls (a0 a1 : ByteArray) (a2_0 a2_1 a2_2 : Bool) (r1 : List (S83)) (r2 : Bool) (w : World) (h : impl_FirstShortest.f a0 a1 a2_0 a2_1 a2_2 = some (r1, r2)) :
    Calls Tryd.prog 43 #[.string a0, .string a1, .agg #[.bool a2_0, .bool a2_1, .bool a2_2]] w fun e w' => ∃ v0_ : Value, e = .returned (.tuple #[v0_, .bool r2]) ∧ Go.Proofs.YtjgijaocinpkhaaDoorW.PrintWords.Kd.R k83 83 w' w.heap.size (fun _ => True) v0_ r1 ∧ Below w.heap.size w w' := by
  unfold impl_FirstShortest.f at h
  obtain ⟨r, hr, h⟩ := Option.bind_eq_some_iff.mp h
  cases r with
  | false =>
    rw [if_neg (by decide)] at h
    cases h
    exact (impl_FirstShortest.no1 a0 a1 _ _ _ w hr).mono fun e w' h => ⟨_, h.1, Go.Proofs.YtjgijaocinpkhaaDoorW.PrintWords.Kd.R_nil _ _ _ _ _, h.2⟩
  | true =>
    rw [if_pos rfl] at h
    obtain ⟨q, hq, h⟩ := Option.bind_eq_some_iff.mp h
    cases q with
    | false =>
      rw [if_neg (by decide)] at h
      cases h
      exact (impl_FirstShortest.no2 a0 a1 _ _ _ w hr hq).mono fun e w' h => ⟨_, h.1, Go.Proofs.YtjgijaocinpkhaaDoorW.PrintWords.Kd.R_nil _ _ _ _ _, h.2⟩
    | true =>
      rw [if_pos rfl] at h
      split at h
      · rename_i hs
        obtain ⟨E, hE, h⟩ := Option.bind_eq_some_iff.mp h
        have h1 : (playE E a1).1 = r1 := congrArg Prod.fst (Option.some.inj h)
        have h2 : (playE E a1).2 = r2 := congrArg Prod.snd (Option.some.inj h)
        subst h1
        subst h2
        exact (impl_FirstShortest.walk 100000 a0 a1 hs _ _ _ E w hr hq hE).mono fun e w' h => by
          obtain ⟨⟨v, e1, e2⟩, e3⟩ := h
          exact ⟨v, e1, e2, e3⟩
      · cases h


/-! ### impl_ShortestByRule: function 34 -/
def impl_ShortestByRule.f (a0 : ByteArray) (a1 : ByteArray) (a2_0 : Bool) (a2_1 : Bool) (a2_2 : Bool) : Option (Int × Bool) := (impl_FirstShortest.f a0 a1 a2_0 a2_1 a2_2).bind fun bt158 => (some ((bt158.1.length : Int), bt158.2))
set_option maxHeartbeats 8000000 in
set_option maxRecDepth 100000 in
theorem impl_ShortestByRule.calls (a0 : ByteArray) (a1 : ByteArray) (a2_0 : Bool) (a2_1 : Bool) (a2_2 : Bool) (r1 : Int) (r2 : Bool) (w : World) (h : impl_ShortestByRule.f a0 a1 a2_0 a2_1 a2_2 = some (r1, r2)) :
    Calls Tryd.prog 34 #[.string a0, .string a1, .agg #[.bool a2_0, .bool a2_1, .bool a2_2]] w fun e w' => e = .returned (.tuple #[.int .i64 r1, .bool r2]) ∧ Below w.heap.size w w' := by
  have hu32 := Tryd.underlying32
  have HB := Aside0.mk (Below.refl w.heap.size w)
  have H : ((impl_FirstShortest.f a0 a1 a2_0 a2_1 a2_2).bind fun bt158 => (some ((bt158.1.length : Int), bt158.2))) = some (r1, r2) := h
  clear h
  replace H := Option.bind_eq_some_iff.mp H
  obtain ⟨⟨t158, t161⟩, A40, H⟩ := H
  replace H : (some ((t158.length : Int), t161)) = some (r1, r2) := H
  have A4 := Aside0.mk A40
  clear A40
  simp only [Option.some.injEq, Prod.mk.injEq] at H
  obtain ⟨rfl, rfl⟩ := H
  go_enter Tryd.func34, Tryd.ntmps34
  go_wp2_with (first | ((with_reducible refine gate_dst (N := 5) rfl ?_); refine box_event ?hg (N := 5) ?hd (cs := #[.bool a2_0, .bool a2_1, .bool a2_2]) (t := 32) ?hr ?_; (case hd => rfl); (case hg => rfl); (case hr => first | (go_simp; done) | (go_simp; rfl)); intro gb157 hg w5 hbox hb; have n0_ := Aside0.mk (below_step (by repeat (first | (with_reducible first | exact HB.out | apply below_alloc | apply pw_below_drewN | apply below_drew1) | exact HB.out)) hb); have n1_ := Aside0.mk (hbox); have n2_ := Aside0.mk ((by rw [hg]; exact (below_size (by repeat (first | (with_reducible first | exact HB.out | apply below_alloc | apply pw_below_drewN | apply below_drew1) | exact HB.out))) : w.heap.size ≤ gb157)); have n3_ := Aside0.mk ((by rw [hg]; exact (below_size (by repeat (first | (with_reducible first | exact HB.out | apply below_alloc | apply pw_below_drewN | apply below_drew1) | exact HB.out))) : w.heap.size ≤ gb157)); clear HB; have HB := n0_; have BK157 := n1_; have GW157 := n2_; have GE157 := n3_; clear n0_ n1_ n2_ n3_; clear hb hbox hg; have hcz6_0 : w5.cell? ⟨gb157, 0, none⟩ = some (.bool a2_0) := (blk_cell BK157.out 0).trans rfl; have hcz6_1 : w5.cell? ⟨gb157, 1, none⟩ = some (.bool a2_1) := (blk_cell BK157.out 1).trans rfl; have hcz6_2 : w5.cell? ⟨gb157, 2, none⟩ = some (.bool a2_2) := (blk_cell BK157.out 2).trans rfl; have hfz6_0 := blk_frozen BK157.out 0; have hfz6_1 := blk_frozen BK157.out 1; have hfz6_2 := blk_frozen BK157.out 2) | ((with_reducible refine gate_callee (f := 43) rfl ?_); refine goesL_ (some 14) rfl rfl Tryd.func43 (by kernel_rfl) rfl #[.string a0, .string a1, .agg #[.bool a2_0, .bool a2_1, .bool a2_2]] rfl (by (try simp only [List.map_toArray, List.map_cons, List.map_nil]); first | done | rfl | (simp only [List.length_drop, List.length_take]; rfl)) ?_; (with_reducible refine (impl_FirstShortest.calls a0 a1 a2_0 a2_1 a2_2 t158 t161 _ A4.out).mono ?_); rintro e w7 ⟨v159, rfl, ho0, hb⟩; refine ⟨_, rfl, ?_⟩; have n0_ := Aside0.mk (Kd.R_lower ho0 (below_size (by repeat (first | (with_reducible first | exact HB.out | apply below_alloc | apply pw_below_drewN | apply below_drew1 | refine below_set ?_ GE157.out) | exact HB.out)))); have n1_ := Aside0.mk (blk_below (g := gb157) (o := .cells #[.bool a2_0, .bool a2_1, .bool a2_2] 32 (0, 0)) (by (with_reducible repeat (first | refine blk_drewN ?_ _ | refine blk_drew ?_ | refine blk_alloc ?_ _)); exact BK157.out) hb); have n2_ := Aside0.mk (below_step (by repeat (first | (with_reducible first | exact HB.out | apply below_alloc | apply pw_below_drewN | apply below_drew1 | refine below_set ?_ GE157.out) | exact HB.out)) hb); clear BK157; clear HB; have HO160 := n0_; have BK157 := n1_; have HB := n2_; clear n0_ n1_ n2_; (try clear hb); (try clear hb2); (try clear hk); (try clear hi); (try clear ho0); obtain ⟨Ao8, co8, eo8⟩ := Kd.R_slice HO160.out; subst eo8))
  go_ret2
  exact ⟨by first | rfl | (simp [errW_none, errW_some] <;> rfl) | (simp [*, errW_none, errW_some] <;> rfl), by repeat (first | (with_reducible first | exact HB.out | apply below_alloc | apply pw_below_drewN | apply below_drew1 | refine below_set ?_ GE157.out) | exact HB.out)⟩

/-! ### laws_FnExactShortestByRule: function 10 -/
def laws_FnExactShortestByRule.f (k : Nat) (a0 : ByteArray) (a1 : ByteArray) (a2_0 : Bool) (a2_1 : Bool) (a2_2 : Bool) : Option (Bool) := if (a0.size : Int) > 1048576 then (some true) else (if (a1.size : Int) > 1048576 then (some true) else ((laws_toRule.f a2_0 a2_1 a2_2).bind fun bt163 => ((spec_ShortestByRule.f k a0 a1 bt163.1 bt163.2.1 bt163.2.2).bind fun bt166 => ((laws_toRule.f a2_0 a2_1 a2_2).bind fun bt168 => ((impl_ShortestByRule.f a0 a1 bt168.1 bt168.2.1 bt168.2.2).bind fun bt171 => (if bt171.1 = bt166.1 then (if (bt171.2 != bt166.2) = true then (some false) else (some true)) else (some false)))))))
theorem laws_FnExactShortestByRule.mono : ∀ a0 a1 a2 a3 a4 k, LeO (laws_FnExactShortestByRule.f k a0 a1 a2 a3 a4) (laws_FnExactShortestByRule.f (k + 1) a0 a1 a2 a3 a4) := by
  intro a0 a1 a2 a3 a4 k
  unfold laws_FnExactShortestByRule.f
  repeat' first
      | (with_reducible exact spec_ShortestByRule.mono _ _ _ _ _ _)
      | (with_reducible exact LeO.refl _)
      | (with_reducible exact LeO.none _)
      | (with_reducible refine LeO.ite ?_ ?_)
      | (with_reducible refine LeO.bind ?_ (fun _ => ?_))
      | exact spec_ShortestByRule.mono _ _ _ _ _ _
      | exact LeO.none _
      | refine LeO.ite ?_ ?_
      | refine LeO.bind ?_ (fun _ => ?_)
set_option maxHeartbeats 8000000 in
set_option maxRecDepth 100000 in
theorem laws_FnExactShortestByRule.calls (k : Nat) (a0 : ByteArray) (a1 : ByteArray) (a2_0 : Bool) (a2_1 : Bool) (a2_2 : Bool) (r : Bool) (w : World) (h : laws_FnExactShortestByRule.f k a0 a1 a2_0 a2_1 a2_2 = some r) :
    Calls Tryd.prog 10 #[.string a0, .string a1, .agg #[.bool a2_0, .bool a2_1, .bool a2_2]] w fun e w' => e = .returned (.bool r) ∧ Below w.heap.size w w' := by
  have hu29 := Tryd.underlying29
  have HB := Aside0.mk (Below.refl w.heap.size w)
  have H : (if (a0.size : Int) > 1048576 then (some true) else (if (a1.size : Int) > 1048576 then (some true) else ((laws_toRule.f a2_0 a2_1 a2_2).bind fun bt163 => ((spec_ShortestByRule.f k a0 a1 bt163.1 bt163.2.1 bt163.2.2).bind fun bt166 => ((laws_toRule.f a2_0 a2_1 a2_2).bind fun bt168 => ((impl_ShortestByRule.f a0 a1 bt168.1 bt168.2.1 bt168.2.2).bind fun bt171 => (if bt171.1 = bt166.1 then (if (bt171.2 != bt166.2) = true then (some false) else (some true)) else (some false)))))))) = some r := h
  clear h
  by_cases c4 : (a0.size : Int) > 1048576
  · rw [if_pos c4] at H
    have c4b0 : decide (1048576 < (a0.size : Int)) = true := decide_eq_true c4
    have c4b1 : decide (1048576 < a0.size) = true := decide_eq_true (by omega)
    clear c4
    obtain rfl := Option.some.inj H
    go_enter Tryd.func10, Tryd.ntmps10
    go_wp2_with (first | ((with_reducible refine gate_dst (N := 5) rfl ?_); refine box_event ?hg (N := 5) ?hd (cs := #[.bool a2_0, .bool a2_1, .bool a2_2]) (t := 29) ?hr ?_; (case hd => rfl); (case hg => rfl); (case hr => first | (go_simp; done) | (go_simp; rfl)); intro gb162 hg w5 hbox hb; have n0_ := Aside0.mk (below_step (by repeat (first | (with_reducible first | exact HB.out | apply below_alloc | apply pw_below_drewN | apply below_drew1) | exact HB.out)) hb); have n1_ := Aside0.mk (hbox); have n2_ := Aside0.mk ((by rw [hg]; exact (below_size (by repeat (first | (with_reducible first | exact HB.out | apply below_alloc | apply pw_below_drewN | apply below_drew1) | exact HB.out))) : w.heap.size ≤ gb162)); have n3_ := Aside0.mk ((by rw [hg]; exact (below_size (by repeat (first | (with_reducible first | exact HB.out | apply below_alloc | apply pw_below_drewN | apply below_drew1) | exact HB.out))) : w.heap.size ≤ gb162)); clear HB; have HB := n0_; have BK162 := n1_; have GW162 := n2_; have GE162 := n3_; clear n0_ n1_ n2_ n3_; clear hb hbox hg))
    go_ret
    exact ⟨by first | rfl | (simp [errW_none, errW_some] <;> rfl) | (simp [*, errW_none, errW_some] <;> rfl), by repeat (first | (with_reducible first | exact HB.out | apply below_alloc | apply pw_below_drewN | apply below_drew1 | refine below_set ?_ GE162.out) | exact HB.out)⟩
  · rw [if_neg c4] at H
    have c4b0 : decide (1048576 < (a0.size : Int)) = false := decide_eq_false c4
    have c4b1 : decide (1048576 < a0.size) = false := decide_eq_false (by omega)
    clear c4
    by_cases c6 : (a1.size : Int) > 1048576
    · rw [if_pos c6] at H
      have c6b0 : decide (1048576 < (a1.size : Int)) = true := decide_eq_true c6
      have c6b1 : decide (1048576 < a1.size) = true := decide_eq_true (by omega)
      clear c6
      obtain rfl := Option.some.inj H
      go_enter Tryd.func10, Tryd.ntmps10
      go_wp2_with (first | ((with_reducible refine gate_dst (N := 5) rfl ?_); refine box_event ?hg (N := 5) ?hd (cs := #[.bool a2_0, .bool a2_1, .bool a2_2]) (t := 29) ?hr ?_; (case hd => rfl); (case hg => rfl); (case hr => first | (go_simp; done) | (go_simp; rfl)); intro gb162 hg w7 hbox hb; have n0_ := Aside0.mk (below_step (by repeat (first | (with_reducible first | exact HB.out | apply below_alloc | apply pw_below_drewN | apply below_drew1) | exact HB.out)) hb); have n1_ := Aside0.mk (hbox); have n2_ := Aside0.mk ((by rw [hg]; exact (below_size (by repeat (first | (with_reducible first | exact HB.out | apply below_alloc | apply pw_below_drewN | apply below_drew1) | exact HB.out))) : w.heap.size ≤ gb162)); have n3_ := Aside0.mk ((by rw [hg]; exact (below_size (by repeat (first | (with_reducible first | exact HB.out | apply below_alloc | apply pw_below_drewN | apply below_drew1) | exact HB.out))) : w.heap.size ≤ gb162)); clear HB; have HB := n0_; have BK162 := n1_; have GW162 := n2_; have GE162 := n3_; clear n0_ n1_ n2_ n3_; clear hb hbox hg))
      go_ret
      exact ⟨by first | rfl | (simp [errW_none, errW_some] <;> rfl) | (simp [*, errW_none, errW_some] <;> rfl), by repeat (first | (with_reducible first | exact HB.out | apply below_alloc | apply pw_below_drewN | apply below_drew1 | refine below_set ?_ GE162.out) | exact HB.out)⟩
    · rw [if_neg c6] at H
      have c6b0 : decide (1048576 < (a1.size : Int)) = false := decide_eq_false c6
      have c6b1 : decide (1048576 < a1.size) = false := decide_eq_false (by omega)
      clear c6
      replace H := Option.bind_eq_some_iff.mp H
      obtain ⟨⟨t163, t164, t165⟩, A80, H⟩ := H
      replace H : ((spec_ShortestByRule.f k a0 a1 t163 t164 t165).bind fun bt166 => ((laws_toRule.f a2_0 a2_1 a2_2).bind fun bt168 => ((impl_ShortestByRule.f a0 a1 bt168.1 bt168.2.1 bt168.2.2).bind fun bt171 => (if bt171.1 = bt166.1 then (if (bt171.2 != bt166.2) = true then (some false) else (some true)) else (some false))))) = some r := H
      have A8 := Aside0.mk A80
      clear A80
      replace H := Option.bind_eq_some_iff.mp H
      obtain ⟨⟨t166, t167⟩, A90, H⟩ := H
      replace H : ((laws_toRule.f a2_0 a2_1 a2_2).bind fun bt168 => ((impl_ShortestByRule.f a0 a1 bt168.1 bt168.2.1 bt168.2.2).bind fun bt171 => (if bt171.1 = t166 then (if (bt171.2 != t167) = true then (some false) else (some true)) else (some false)))) = some r := H
      have A9 := Aside0.mk A90
      clear A90
      replace H := Option.bind_eq_some_iff.mp H
      obtain ⟨⟨t168, t169, t170⟩, A100, H⟩ := H
      replace H : ((impl_ShortestByRule.f a0 a1 t168 t169 t170).bind fun bt171 => (if bt171.1 = t166 then (if (bt171.2 != t167) = true then (some false) else (some true)) else (some false))) = some r := H
      have A10 := Aside0.mk A100
      clear A100
      replace H := Option.bind_eq_some_iff.mp H
      obtain ⟨⟨t171, t172⟩, A110, H⟩ := H
      replace H : (if t171 = t166 then (if (t172 != t167) = true then (some false) else (some true)) else (some false)) = some r := H
      have A11 := Aside0.mk A110
      clear A110
      by_cases c12 : t171 = t166
      · rw [if_pos c12] at H
        have c12b0 : (t171 == t166) = true := beq_iff_eq.mpr c12
        have c12b1 : (t171 != t166) = false := bne_eq_false_iff_eq.mpr c12
        clear c12
        by_cases c13 : (t172 != t167) = true
        · rw [if_pos c13] at H
          have c13b0 : (t172 != t167) = true := c13
          (try (have c13b1 : decide (t172 = t167) = false := by simpa using c13))
          (try (have c13b2 : (t172 == t167) = false := by simpa using c13))
          (try (have c13b3 : ¬ (t172 = t167) := by simpa using c13))
          clear c13
          obtain rfl := Option.some.inj H
          go_enter Tryd.func10, Tryd.ntmps10
          go_wp2_with (first | ((with_reducible refine gate_dst (N := 5) rfl ?_); refine box_event ?hg (N := 5) ?hd (cs := #[.bool a2_0, .bool a2_1, .bool a2_2]) (t := 29) ?hr ?_; (case hd => rfl); (case hg => rfl); (case hr => first | (go_simp; done) | (go_simp; rfl)); intro gb162 hg w14 hbox hb; have n0_ := Aside0.mk (below_step (by repeat (first | (with_reducible first | exact HB.out | apply below_alloc | apply pw_below_drewN | apply below_drew1) | exact HB.out)) hb); have n1_ := Aside0.mk (hbox); have n2_ := Aside0.mk ((by rw [hg]; exact (below_size (by repeat (first | (with_reducible first | exact HB.out | apply below_alloc | apply pw_below_drewN | apply below_drew1) | exact HB.out))) : w.heap.size ≤ gb162)); have n3_ := Aside0.mk ((by rw [hg]; exact (below_size (by repeat (first | (with_reducible first | exact HB.out | apply below_alloc | apply pw_below_drewN | apply below_drew1) | exact HB.out))) : w.heap.size ≤ gb162)); clear HB; have HB := n0_; have BK162 := n1_; have GW162 := n2_; have GE162 := n3_; clear n0_ n1_ n2_ n3_; clear hb hbox hg; have hcz15_0 : w14.cell? ⟨gb162, 0, none⟩ = some (.bool a2_0) := (blk_cell BK162.out 0).trans rfl; have hcz15_1 : w14.cell? ⟨gb162, 1, none⟩ = some (.bool a2_1) := (blk_cell BK162.out 1).trans rfl; have hcz15_2 : w14.cell? ⟨gb162, 2, none⟩ = some (.bool a2_2) := (blk_cell BK162.out 2).trans rfl; have hfz15_0 := blk_frozen BK162.out 0; have hfz15_1 := blk_frozen BK162.out 1; have hfz15_2 := blk_frozen BK162.out 2) | ((with_reducible refine gate_callee (f := 21) rfl ?_); refine goesL_ (some 21) rfl rfl Tryd.func21 (by kernel_rfl) rfl #[.agg #[.bool a2_0, .bool a2_1, .bool a2_2]] rfl (by (try simp only [List.map_toArray, List.map_cons, List.map_nil]); first | done | rfl | (simp only [List.length_drop, List.length_take]; rfl)) ?_; (with_reducible refine (laws_toRule.calls a2_0 a2_1 a2_2 t163 t164 t165 _ A8.out).mono ?_); rintro e w16 ⟨rfl, hb⟩; refine ⟨_, rfl, ?_⟩; have n0_ := Aside0.mk (blk_below (g := gb162) (o := .cells #[.bool a2_0, .bool a2_1, .bool a2_2] 29 (0, 0)) (by (with_reducible repeat (first | refine blk_drewN ?_ _ | refine blk_drew ?_ | refine blk_alloc ?_ _)); exact BK162.out) hb); have n1_ := Aside0.mk (below_step (by repeat (first | (with_reducible first | exact HB.out | apply below_alloc | apply pw_below_drewN | apply below_drew1 | refine below_set ?_ GE162.out) | exact HB.out)) hb); clear BK162; clear HB; have BK162 := n0_; have HB := n1_; clear n0_ n1_; (try clear hb); (try clear hb2); (try clear hk); (try clear hi)) | ((with_reducible refine gate_callee (f := 33) rfl ?_); refine goesL_ (some 22) rfl rfl Tryd.func33 (by kernel_rfl) rfl #[.string a0, .string a1, .agg #[.bool t163, .bool t164, .bool t165]] rfl (by (try simp only [List.map_toArray, List.map_cons, List.map_nil]); first | done | rfl | (simp only [List.length_drop, List.length_take]; rfl)) ?_; (with_reducible refine (spec_ShortestByRule.calls k a0 a1 t163 t164 t165 t166 t167 _ A9.out).mono ?_); rintro e w17 ⟨rfl, hb⟩; refine ⟨_, rfl, ?_⟩; have n0_ := Aside0.mk (blk_below (g := gb162) (o := .cells #[.bool a2_0, .bool a2_1, .bool a2_2] 29 (0, 0)) (by (with_reducible repeat (first | refine blk_drewN ?_ _ | refine blk_drew ?_ | refine blk_alloc ?_ _)); exact BK162.out) hb); have n1_ := Aside0.mk (below_step (by repeat (first | (with_reducible first | exact HB.out | apply below_alloc | apply pw_below_drewN | apply below_drew1 | refine below_set ?_ GE162.out) | exact HB.out)) hb); clear BK162; clear HB; have BK162 := n0_; have HB := n1_; clear n0_ n1_; (try clear hb); (try clear hb2); (try clear hk); (try clear hi); have hcz18_0 : w17.cell? ⟨gb162, 0, none⟩ = some (.bool a2_0) := (blk_cell BK162.out 0).trans rfl; have hcz18_1 : w17.cell? ⟨gb162, 1, none⟩ = some (.bool a2_1) := (blk_cell BK162.out 1).trans rfl; have hcz18_2 : w17.cell? ⟨gb162, 2, none⟩ = some (.bool a2_2) := (blk_cell BK162.out 2).trans rfl; have hfz18_0 := blk_frozen BK162.out 0; have hfz18_1 := blk_frozen BK162.out 1; have hfz18_2 := blk_frozen BK162.out 2) | ((with_reducible refine gate_callee (f := 21) rfl ?_); refine goesL_ (some 29) rfl rfl Tryd.func21 (by kernel_rfl) rfl #[.agg #[.bool a2_0, .bool a2_1, .bool a2_2]] rfl (by (try simp only [List.map_toArray, List.map_cons, List.map_nil]); first | done | rfl | (simp only [List.length_drop, List.length_take]; rfl)) ?_; (with_reducible refine (laws_toRule.calls a2_0 a2_1 a2_2 t168 t169 t170 _ A10.out).mono ?_); rintro e w19 ⟨rfl, hb⟩; refine ⟨_, rfl, ?_⟩; have n0_ := Aside0.mk (blk_below (g := gb162) (o := .cells #[.bool a2_0, .bool a2_1, .bool a2_2] 29 (0, 0)) (by (with_reducible repeat (first | refine blk_drewN ?_ _ | refine blk_drew ?_ | refine blk_alloc ?_ _)); exact BK162.out) hb); have n1_ := Aside0.mk (below_step (by repeat (first | (with_reducible first | exact HB.out | apply below_alloc | apply pw_below_drewN | apply below_drew1 | refine below_set ?_ GE162.out) | exact HB.out)) hb); clear BK162; clear HB; have BK162 := n0_; have HB := n1_; clear n0_ n1_; (try clear hb); (try clear hb2); (try clear hk); (try clear hi)) | ((with_reducible refine gate_callee (f := 34) rfl ?_); refine goesL_ (some 30) rfl rfl Tryd.func34 (by kernel_rfl) rfl #[.string a0, .string a1, .agg #[.bool t168, .bool t169, .bool t170]] rfl (by (try simp only [List.map_toArray, List.map_cons, List.map_nil]); first | done | rfl | (simp only [List.length_drop, List.length_take]; rfl)) ?_; (with_reducible refine (impl_ShortestByRule.calls a0 a1 t168 t169 t170 t171 t172 _ A11.out).mono ?_); rintro e w20 ⟨rfl, hb⟩; refine ⟨_, rfl, ?_⟩; have n0_ := Aside0.mk (blk_below (g := gb162) (o := .cells #[.bool a2_0, .bool a2_1, .bool a2_2] 29 (0, 0)) (by (with_reducible repeat (first | refine blk_drewN ?_ _ | refine blk_drew ?_ | refine blk_alloc ?_ _)); exact BK162.out) hb); have n1_ := Aside0.mk (below_step (by repeat (first | (with_reducible first | exact HB.out | apply below_alloc | apply pw_below_drewN | apply below_drew1 | refine below_set ?_ GE162.out) | exact HB.out)) hb); clear BK162; clear HB; have BK162 := n0_; have HB := n1_; clear n0_ n1_; (try clear hb); (try clear hb2); (try clear hk); (try clear hi)))
          go_ret
          exact ⟨by first | rfl | (simp [errW_none, errW_some] <;> rfl) | (simp [*, errW_none, errW_some] <;> rfl), by repeat (first | (with_reducible first | exact HB.out | apply below_alloc | apply pw_below_drewN | apply below_drew1 | refine below_set ?_ GE162.out) | exact HB.out)⟩
        · rw [if_neg c13] at H
          have c13b0 : (t172 != t167) = false := by simpa using c13
          (try (have c13b1 : decide (t172 = t167) = true := by simpa using c13))
          (try (have c13b2 : (t172 == t167) = true := by simpa using c13))
          clear c13
          obtain rfl := Option.some.inj H
          go_enter Tryd.func10, Tryd.ntmps10
          go_wp2_with (first | ((with_reducible refine gate_dst (N := 5) rfl ?_); refine box_event ?hg (N := 5) ?hd (cs := #[.bool a2_0, .bool a2_1, .bool a2_2]) (t := 29) ?hr ?_; (case hd => rfl); (case hg => rfl); (case hr => first | (go_simp; done) | (go_simp; rfl)); intro gb162 hg w21 hbox hb; have n0_ := Aside0.mk (below_step (by repeat (first | (with_reducible first | exact HB.out | apply below_alloc | apply pw_below_drewN | apply below_drew1) | exact HB.out)) hb); have n1_ := Aside0.mk (hbox); have n2_ := Aside0.mk ((by rw [hg]; exact (below_size (by repeat (first | (with_reducible first | exact HB.out | apply below_alloc | apply pw_below_drewN | apply below_drew1) | exact HB.out))) : w.heap.size ≤ gb162)); have n3_ := Aside0.mk ((by rw [hg]; exact (below_size (by repeat (first | (with_reducible first | exact HB.out | apply below_alloc | apply pw_below_drewN | apply below_drew1) | exact HB.out))) : w.heap.size ≤ gb162)); clear HB; have HB := n0_; have BK162 := n1_; have GW162 := n2_; have GE162 := n3_; clear n0_ n1_ n2_ n3_; clear hb hbox hg; have hcz22_0 : w21.cell? ⟨gb162, 0, none⟩ = some (.bool a2_0) := (blk_cell BK162.out 0).trans rfl; have hcz22_1 : w21.cell? ⟨gb162, 1, none⟩ = some (.bool a2_1) := (blk_cell BK162.out 1).trans rfl; have hcz22_2 : w21.cell? ⟨gb162, 2, none⟩ = some (.bool a2_2) := (blk_cell BK162.out 2).trans rfl; have hfz22_0 := blk_frozen BK162.out 0; have hfz22_1 := blk_frozen BK162.out 1; have hfz22_2 := blk_frozen BK162.out 2) | ((with_reducible refine gate_callee (f := 21) rfl ?_); refine goesL_ (some 21) rfl rfl Tryd.func21 (by kernel_rfl) rfl #[.agg #[.bool a2_0, .bool a2_1, .bool a2_2]] rfl (by (try simp only [List.map_toArray, List.map_cons, List.map_nil]); first | done | rfl | (simp only [List.length_drop, List.length_take]; rfl)) ?_; (with_reducible refine (laws_toRule.calls a2_0 a2_1 a2_2 t163 t164 t165 _ A8.out).mono ?_); rintro e w23 ⟨rfl, hb⟩; refine ⟨_, rfl, ?_⟩; have n0_ := Aside0.mk (blk_below (g := gb162) (o := .cells #[.bool a2_0, .bool a2_1, .bool a2_2] 29 (0, 0)) (by (with_reducible repeat (first | refine blk_drewN ?_ _ | refine blk_drew ?_ | refine blk_alloc ?_ _)); exact BK162.out) hb); have n1_ := Aside0.mk (below_step (by repeat (first | (with_reducible first | exact HB.out | apply below_alloc | apply pw_below_drewN | apply below_drew1 | refine below_set ?_ GE162.out) | exact HB.out)) hb); clear BK162; clear HB; have BK162 := n0_; have HB := n1_; clear n0_ n1_; (try clear hb); (try clear hb2); (try clear hk); (try clear hi)) | ((with_reducible refine gate_callee (f := 33) rfl ?_); refine goesL_ (some 22) rfl rfl Tryd.func33 (by kernel_rfl) rfl #[.string a0, .string a1, .agg #[.bool t163, .bool t164, .bool t165]] rfl (by (try simp only [List.map_toArray, List.map_cons, List.map_nil]); first | done | rfl | (simp only [List.length_drop, List.length_take]; rfl)) ?_; (with_reducible refine (spec_ShortestByRule.calls k a0 a1 t163 t164 t165 t166 t167 _ A9.out).mono ?_); rintro e w24 ⟨rfl, hb⟩; refine ⟨_, rfl, ?_⟩; have n0_ := Aside0.mk (blk_below (g := gb162) (o := .cells #[.bool a2_0, .bool a2_1, .bool a2_2] 29 (0, 0)) (by (with_reducible repeat (first | refine blk_drewN ?_ _ | refine blk_drew ?_ | refine blk_alloc ?_ _)); exact BK162.out) hb); have n1_ := Aside0.mk (below_step (by repeat (first | (with_reducible first | exact HB.out | apply below_alloc | apply pw_below_drewN | apply below_drew1 | refine below_set ?_ GE162.out) | exact HB.out)) hb); clear BK162; clear HB; have BK162 := n0_; have HB := n1_; clear n0_ n1_; (try clear hb); (try clear hb2); (try clear hk); (try clear hi); have hcz25_0 : w24.cell? ⟨gb162, 0, none⟩ = some (.bool a2_0) := (blk_cell BK162.out 0).trans rfl; have hcz25_1 : w24.cell? ⟨gb162, 1, none⟩ = some (.bool a2_1) := (blk_cell BK162.out 1).trans rfl; have hcz25_2 : w24.cell? ⟨gb162, 2, none⟩ = some (.bool a2_2) := (blk_cell BK162.out 2).trans rfl; have hfz25_0 := blk_frozen BK162.out 0; have hfz25_1 := blk_frozen BK162.out 1; have hfz25_2 := blk_frozen BK162.out 2) | ((with_reducible refine gate_callee (f := 21) rfl ?_); refine goesL_ (some 29) rfl rfl Tryd.func21 (by kernel_rfl) rfl #[.agg #[.bool a2_0, .bool a2_1, .bool a2_2]] rfl (by (try simp only [List.map_toArray, List.map_cons, List.map_nil]); first | done | rfl | (simp only [List.length_drop, List.length_take]; rfl)) ?_; (with_reducible refine (laws_toRule.calls a2_0 a2_1 a2_2 t168 t169 t170 _ A10.out).mono ?_); rintro e w26 ⟨rfl, hb⟩; refine ⟨_, rfl, ?_⟩; have n0_ := Aside0.mk (blk_below (g := gb162) (o := .cells #[.bool a2_0, .bool a2_1, .bool a2_2] 29 (0, 0)) (by (with_reducible repeat (first | refine blk_drewN ?_ _ | refine blk_drew ?_ | refine blk_alloc ?_ _)); exact BK162.out) hb); have n1_ := Aside0.mk (below_step (by repeat (first | (with_reducible first | exact HB.out | apply below_alloc | apply pw_below_drewN | apply below_drew1 | refine below_set ?_ GE162.out) | exact HB.out)) hb); clear BK162; clear HB; have BK162 := n0_; have HB := n1_; clear n0_ n1_; (try clear hb); (try clear hb2); (try clear hk); (try clear hi)) | ((with_reducible refine gate_callee (f := 34) rfl ?_); refine goesL_ (some 30) rfl rfl Tryd.func34 (by kernel_rfl) rfl #[.string a0, .string a1, .agg #[.bool t168, .bool t169, .bool t170]] rfl (by (try simp only [List.map_toArray, List.map_cons, List.map_nil]); first | done | rfl | (simp only [List.length_drop, List.length_take]; rfl)) ?_; (with_reducible refine (impl_ShortestByRule.calls a0 a1 t168 t169 t170 t171 t172 _ A11.out).mono ?_); rintro e w27 ⟨rfl, hb⟩; refine ⟨_, rfl, ?_⟩; have n0_ := Aside0.mk (blk_below (g := gb162) (o := .cells #[.bool a2_0, .bool a2_1, .bool a2_2] 29 (0, 0)) (by (with_reducible repeat (first | refine blk_drewN ?_ _ | refine blk_drew ?_ | refine blk_alloc ?_ _)); exact BK162.out) hb); have n1_ := Aside0.mk (below_step (by repeat (first | (with_reducible first | exact HB.out | apply below_alloc | apply pw_below_drewN | apply below_drew1 | refine below_set ?_ GE162.out) | exact HB.out)) hb); clear BK162; clear HB; have BK162 := n0_; have HB := n1_; clear n0_ n1_; (try clear hb); (try clear hb2); (try clear hk); (try clear hi)))
          go_ret
          exact ⟨by first | rfl | (simp [errW_none, errW_some] <;> rfl) | (simp [*, errW_none, errW_some] <;> rfl), by repeat (first | (with_reducible first | exact HB.out | apply below_alloc | apply pw_below_drewN | apply below_drew1 | refine below_set ?_ GE162.out) | exact HB.out)⟩
      · rw [if_neg c12] at H
        have c12b0 : (t171 == t166) = false := beq_eq_false_iff_ne.mpr c12
        have c12b1 : (t171 != t166) = true := bne_iff_ne.mpr c12
        obtain rfl := Option.some.inj H
        go_enter Tryd.func10, Tryd.ntmps10
        go_wp2_with (first | ((with_reducible refine gate_dst (N := 5) rfl ?_); refine box_event ?hg (N := 5) ?hd (cs := #[.bool a2_0, .bool a2_1, .bool a2_2]) (t := 29) ?hr ?_; (case hd => rfl); (case hg => rfl); (case hr => first | (go_simp; done) | (go_simp; rfl)); intro gb162 hg w28 hbox hb; have n0_ := Aside0.mk (below_step (by repeat (first | (with_reducible first | exact HB.out | apply below_alloc | apply pw_below_drewN | apply below_drew1) | exact HB.out)) hb); have n1_ := Aside0.mk (hbox); have n2_ := Aside0.mk ((by rw [hg]; exact (below_size (by repeat (first | (with_reducible first | exact HB.out | apply below_alloc | apply pw_below_drewN | apply below_drew1) | exact HB.out))) : w.heap.size ≤ gb162)); have n3_ := Aside0.mk ((by rw [hg]; exact (below_size (by repeat (first | (with_reducible first | exact HB.out | apply below_alloc | apply pw_below_drewN | apply below_drew1) | exact HB.out))) : w.heap.size ≤ gb162)); clear HB; have HB := n0_; have BK162 := n1_; have GW162 := n2_; have GE162 := n3_; clear n0_ n1_ n2_ n3_; clear hb hbox hg; have hcz29_0 : w28.cell? ⟨gb162, 0, none⟩ = some (.bool a2_0) := (blk_cell BK162.out 0).trans rfl; have hcz29_1 : w28.cell? ⟨gb162, 1, none⟩ = some (.bool a2_1) := (blk_cell BK162.out 1).trans rfl; have hcz29_2 : w28.cell? ⟨gb162, 2, none⟩ = some (.bool a2_2) := (blk_cell BK162.out 2).trans rfl; have hfz29_0 := blk_frozen BK162.out 0; have hfz29_1 := blk_frozen BK162.out 1; have hfz29_2 := blk_frozen BK162.out 2) | ((with_reducible refine gate_callee (f := 21) rfl ?_); refine goesL_ (some 21) rfl rfl Tryd.func21 (by kernel_rfl) rfl #[.agg #[.bool a2_0, .bool a2_1, .bool a2_2]] rfl (by (try simp only [List.map_toArray, List.map_cons, List.map_nil]); first | done | rfl | (simp only [List.length_drop, List.length_take]; rfl)) ?_; (with_reducible refine (laws_toRule.calls a2_0 a2_1 a2_2 t163 t164 t165 _ A8.out).mono ?_); rintro e w30 ⟨rfl, hb⟩; refine ⟨_, rfl, ?_⟩; have n0_ := Aside0.mk (blk_below (g := gb162) (o := .cells #[.bool a2_0, .bool a2_1, .bool a2_2] 29 (0, 0)) (by (with_reducible repeat (first | refine blk_drewN ?_ _ | refine blk_drew ?_ | refine blk_alloc ?_ _)); exact BK162.out) hb); have n1_ := Aside0.mk (below_step (by repeat (first | (with_reducible first | exact HB.out | apply below_alloc | apply pw_below_drewN | apply below_drew1 | refine below_set ?_ GE162.out) | exact HB.out)) hb); clear BK162; clear HB; have BK162 := n0_; have HB := n1_; clear n0_ n1_; (try clear hb); (try clear hb2); (try clear hk); (try clear hi)) | ((with_reducible refine gate_callee (f := 33) rfl ?_); refine goesL_ (some 22) rfl rfl Tryd.func33 (by kernel_rfl) rfl #[.string a0, .string a1, .agg #[.bool t163, .bool t164, .bool t165]] rfl (by (try simp only [List.map_toArray, List.map_cons, List.map_nil]); first | done | rfl | (simp only [List.length_drop, List.length_take]; rfl)) ?_; (with_reducible refine (spec_ShortestByRule.calls k a0 a1 t163 t164 t165 t166 t167 _ A9.out).mono ?_); rintro e w31 ⟨rfl, hb⟩; refine ⟨_, rfl, ?_⟩; have n0_ := Aside0.mk (blk_below (g := gb162) (o := .cells #[.bool a2_0, .bool a2_1, .bool a2_2] 29 (0, 0)) (by (with_reducible repeat (first | refine blk_drewN ?_ _ | refine blk_drew ?_ | refine blk_alloc ?_ _)); exact BK162.out) hb); have n1_ := Aside0.mk (below_step (by repeat (first | (with_reducible first | exact HB.out | apply below_alloc | apply pw_below_drewN | apply below_drew1 | refine below_set ?_ GE162.out) | exact HB.out)) hb); clear BK162; clear HB; have BK162 := n0_; have HB := n1_; clear n0_ n1_; (try clear hb); (try clear hb2); (try clear hk); (try clear hi); have hcz32_0 : w31.cell? ⟨gb162, 0, none⟩ = some (.bool a2_0) := (blk_cell BK162.out 0).trans rfl; have hcz32_1 : w31.cell? ⟨gb162, 1, none⟩ = some (.bool a2_1) := (blk_cell BK162.out 1).trans rfl; have hcz32_2 : w31.cell? ⟨gb162, 2, none⟩ = some (.bool a2_2) := (blk_cell BK162.out 2).trans rfl; have hfz32_0 := blk_frozen BK162.out 0; have hfz32_1 := blk_frozen BK162.out 1; have hfz32_2 := blk_frozen BK162.out 2) | ((with_reducible refine gate_callee (f := 21) rfl ?_); refine goesL_ (some 29) rfl rfl Tryd.func21 (by kernel_rfl) rfl #[.agg #[.bool a2_0, .bool a2_1, .bool a2_2]] rfl (by (try simp only [List.map_toArray, List.map_cons, List.map_nil]); first | done | rfl | (simp only [List.length_drop, List.length_take]; rfl)) ?_; (with_reducible refine (laws_toRule.calls a2_0 a2_1 a2_2 t168 t169 t170 _ A10.out).mono ?_); rintro e w33 ⟨rfl, hb⟩; refine ⟨_, rfl, ?_⟩; have n0_ := Aside0.mk (blk_below (g := gb162) (o := .cells #[.bool a2_0, .bool a2_1, .bool a2_2] 29 (0, 0)) (by (with_reducible repeat (first | refine blk_drewN ?_ _ | refine blk_drew ?_ | refine blk_alloc ?_ _)); exact BK162.out) hb); have n1_ := Aside0.mk (below_step (by repeat (first | (with_reducible first | exact HB.out | apply below_alloc | apply pw_below_drewN | apply below_drew1 | refine below_set ?_ GE162.out) | exact HB.out)) hb); clear BK162; clear HB; have BK162 := n0_; have HB := n1_; clear n0_ n1_; (try clear hb); (try clear hb2); (try clear hk); (try clear hi)) | ((with_reducible refine gate_callee (f := 34) rfl ?_); refine goesL_ (some 30) rfl rfl Tryd.func34 (by kernel_rfl) rfl #[.string a0, .string a1, .agg #[.bool t168, .bool t169, .bool t170]] rfl (by (try simp only [List.map_toArray, List.map_cons, List.map_nil]); first | done | rfl | (simp only [List.length_drop, List.length_take]; rfl)) ?_; (with_reducible refine (impl_ShortestByRule.calls a0 a1 t168 t169 t170 t171 t172 _ A11.out).mono ?_); rintro e w34 ⟨rfl, hb⟩; refine ⟨_, rfl, ?_⟩; have n0_ := Aside0.mk (blk_below (g := gb162) (o := .cells #[.bool a2_0, .bool a2_1, .bool a2_2] 29 (0, 0)) (by (with_reducible repeat (first | refine blk_drewN ?_ _ | refine blk_drew ?_ | refine blk_alloc ?_ _)); exact BK162.out) hb); have n1_ := Aside0.mk (below_step (by repeat (first | (with_reducible first | exact HB.out | apply below_alloc | apply pw_below_drewN | apply below_drew1 | refine below_set ?_ GE162.out) | exact HB.out)) hb); clear BK162; clear HB; have BK162 := n0_; have HB := n1_; clear n0_ n1_; (try clear hb); (try clear hb2); (try clear hk); (try clear hi)))
        go_ret
        exact ⟨by first | rfl | (simp [errW_none, errW_some] <;> rfl) | (simp [*, errW_none, errW_some] <;> rfl), by repeat (first | (with_reducible first | exact HB.out | apply below_alloc | apply pw_below_drewN | apply below_drew1 | refine below_set ?_ GE162.out) | exact HB.out)⟩

end Go.Proofs.YtjgijaocinpkhaaDoor.XD
