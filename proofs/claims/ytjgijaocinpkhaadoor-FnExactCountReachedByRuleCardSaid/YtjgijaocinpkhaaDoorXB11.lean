/- The Lean functions that the Go functions of this seat compute, each with the proof that the Go function computes it, for every input (laws: FnExactCountReachedByRule, FnExactReachByRule). Conditions: none beyond those that each theorem names. Written by a program of this session over the kit's printer. -/
import Derived.Test.YtjgijaocinpkhaaDoorXB0
import Derived.Test.YtjgijaocinpkhaaDoorXB2
import Derived.Test.YtjgijaocinpkhaaDoorXB10
namespace Go.Proofs.YtjgijaocinpkhaaDoor.XB
open Go.RowKit Go.Proofs.YtjgijaocinpkhaaDoorW.PrintWords Go.Proofs.YtjgijaocinpkhaaDoorW.PrintLast Go.Proofs.YtjgijaocinpkhaaDoorW.PrintMore
attribute [local go_sem] max2_int min2_int max_two min_two max_three min_three max_four min_four   -- for this text's walks alone
attribute [local go_sem] Lib.run_min_strs Go.Proofs.YtjgijaocinpkhaaDoorXW.run_min2_strs Go.Proofs.YtjgijaocinpkhaaDoorXW.run_int_string
set_option linter.unusedVariables false
set_option linter.unusedSimpArgs false

/-! ### impl_byRule: function 58 (given) -/
section
open Go Go.RowKit Go.Lib Go.Proofs.YtjgijaocinpkhaaDoorW.PrintWords Go.Proofs.YtjgijaocinpkhaaDoorW.PrintLast Go.Proofs.YtjgijaocinpkhaaDoor.Pm
theorem PathsAt.lower {w0 w1 w : World} {v : Value} {E : List PEnt} (h : PathsAt w1 w v E) (hs : w0.heap.size ≤ w1.heap.size) : PathsAt w0 w v E := by
  obtain ⟨bm, v0, v2, v3, v4, e, hl, hm, r0, r2, r3, r4, hne⟩ := h
  exact ⟨bm, v0, v2, v3, v4, e, by omega, hm, Kd.R_lower r0 hs, Kd.R_lower r2 hs, Kd.R_lower r3 hs, Kd.R_lower r4 hs, hne⟩
/-- the search stays as it lies while blocks that are none of its own turn -/
theorem PathsAt.move {w0 w w1 : World} {v : Value} {E : List PEnt} (h : PathsAt w0 w v E) (g : Nat) (hg : g ≤ w0.heap.size) {cs : Array Value} {t : Nat} (hb : w.heap[g]? = some (.cells cs t (0, 0))) (h9 : 9 ≠ t) (h3 : 3 ≠ t) (hv : 83 ≠ t) (hk : ∀ k, k ≠ g → w1.heap[k]? = w.heap[k]?) : PathsAt w0 w1 v E := by
  obtain ⟨bm, v0, v2, v3, v4, e, hl, hm, r0, r2, r3, r4, hne⟩ := h
  have ob : ∀ (u : Value), some g ≠ u.ownBlock → ∀ k, u.ownBlock = some k → k ≠ g := fun u hu k hk e => hu (by rw [hk, e])
  exact ⟨bm, v0, v2, v3, v4, e, hl, hm.move (hk bm (by omega)), R_stay flat_s r0 (fun k hk' => hk k (ob _ (Kd.R_ne r0 hb h9) k hk')), R_stay flat_i r2 (fun k hk' => hk k (ob _ (Kd.R_ne r2 hb h3) k hk')), R_stay flat_m r3 (fun k hk' => hk k (ob _ (Kd.R_ne r3 hb hv) k hk')), R_stay flat_i r4 (fun k hk' => hk k (ob _ (Kd.R_ne r4 hb h3) k hk')), hne⟩
theorem PathsAt.up {w0 w w1 : World} {v : Value} {E : List PEnt} (h : PathsAt w0 w v E) (hb : Below w.heap.size w w1) : PathsAt w0 w1 v E := by
  obtain ⟨bm, v0, v2, v3, v4, e, hl, hm, r0, r2, r3, r4, hne⟩ := h
  exact ⟨bm, v0, v2, v3, v4, e, hl, hm.below hb, Kd.R_below r0 hb, Kd.R_below r2 hb, Kd.R_below r3 hb, Kd.R_below r4 hb, hne⟩
set_option maxHeartbeats 4000000 in
set_option maxRecDepth 1000000 in
theorem impl_byRule.pays (o b l : Bool) (w0 : World) (g : Nat) (hg : w0.heap[g]? = some (.cells #[.bool o, .bool b, .bool l] 32 (0, 0))) (W : World) (s : ByteArray) (ms : List S83) (hW : Below w0.heap.size w0 W) (h : impl_movesBy.f 2000 s o b l = some ms) :
    Calls Tryd.prog 92 (#[.string s] ++ #[.pointer (some ⟨g, 0, none⟩)]) W fun e W' => ∃ v, e = .returned v ∧ Kd.R k83 83 W' W.heap.size (fun _ => True) v ms ∧ Below W.heap.size W W' := by
  have hb := blk_below hg hW
  have c0 : W.cell? ⟨g, 0, none⟩ = some (.bool o) := (blk_cell hb 0).trans rfl
  have c1 : W.cell? ⟨g, 1, none⟩ = some (.bool b) := (blk_cell hb 1).trans rfl
  have c2 : W.cell? ⟨g, 2, none⟩ = some (.bool l) := (blk_cell hb 2).trans rfl
  clear hg hW hb
  go_enter Tryd.func92, Tryd.ntmps92
  go_wp2_with (first
    | (go_at_call 69; refine (impl_movesBy.calls 2000 s o b l ms _ h).mono ?_; rintro e w2 ⟨v2, rfl, ho, hb⟩))
  go_ret
  exact ⟨_, rfl, ho, hb⟩
theorem impl_byRule.enters : Enters Tryd.prog 92 := enters_of Tryd.func92 (by kernel_rfl) rfl
/-- all texts that are reached by a rule -/
def byRuleO (K : Nat) (a : ByteArray) (o b l : Bool) : Option (List PEnt) := if a.size ≤ 1000 then pathsO (fun s => impl_movesBy.f 2000 s o b l) K 0 [⟨a, -1, ⟨0, 0⟩, 0⟩] else none
set_option maxHeartbeats 4000000 in
set_option maxRecDepth 1000000 in
theorem impl_byRule.walk (K : Nat) (a : ByteArray) (o b l : Bool) (EF : List PEnt) (w : World) (h : byRuleO K a o b l = some EF) :
    Calls Tryd.prog 58 #[.string a, .agg #[.bool o, .bool b, .bool l]] w fun e w' => ∃ v, e = .returned v ∧ PathsAt w w' v EF ∧ Pe EF ∧ Below w.heap.size w w' := by
  unfold byRuleO at h
  split at h
  case isFalse => cases h
  rename_i ha
  have hmf : ∀ (fn : Fn) (first cap : Array Value) (w : World), (Instr.makeFunc fn first cap).run Tryd.prog w = .ok (.func fn first cap) w := fun _ _ _ _ => rfl
  obtain ⟨W1, hW1⟩ : ∃ W1, (w.alloc (.cells #[.bool o, .bool b, .bool l] 32 (0, 0))).alloc (.cells #[.slice none 0 0, .map none, .slice none 0 0, .slice none 0 0, .slice none 0 0] 67 (0, 0)) = W1 := ⟨_, rfl⟩
  have hB1 : Below w.heap.size w W1 := hW1 ▸ below_alloc (below_alloc (Below.refl _ _) _) _
  have hs1 : W1.heap.size = w.heap.size + 1 + 1 := by rw [← hW1]; simp
  have hx1 : W1.heap[w.heap.size]? = some (.cells #[.bool o, .bool b, .bool l] 32 (0, 0)) := hW1 ▸ blk_alloc (blk_new w _) _
  have hr1 : W1.heap[w.heap.size + 1]? = some (.cells #[.slice none 0 0, .map none, .slice none 0 0, .slice none 0 0, .slice none 0 0] 67 (0, 0)) := by
    rw [← hW1, show w.heap.size + 1 = (w.alloc (.cells #[.bool o, .bool b, .bool l] 32 (0, 0))).heap.size by simp]
    exact blk_new _ _
  have HC := Aside0.mk (impl_pathsFrom.walk 92 #[.pointer (some ⟨w.heap.size, 0, none⟩)] impl_byRule.enters (fun s => impl_movesBy.f 2000 s o b l) a ha K EF W1 (fun W s ms hW hm => impl_byRule.pays o b l W1 w.heap.size hx1 W s ms hW hm) h)
  clear h
  go_enter Tryd.func58, Tryd.ntmps58
  go_wp2_with (first
    | (go_at_call 52; refine HC.out.mono ?_; rintro e w2 ⟨v, rfl, hP, hE, hb2⟩; obtain ⟨bm, v0, v2, v3, v4, rfl, hl, hm, r0, r2, r3, r4, hne⟩ := hP; obtain ⟨A0, n0, k0, z0⟩ := R_any r0; obtain ⟨A2, n2, k2, z2⟩ := R_any r2; obtain ⟨A3, n3, k3, z3⟩ := R_any r3; obtain ⟨A4, n4, k4, z4⟩ := R_any r4; subst z0; subst z2; subst z3; subst z4; have hr2 := blk_below hr1 hb2; have hd0 : w2.cell? ⟨w.heap.size + 1, 0, none⟩ = some (.slice none 0 0) := (blk_cell hr2 0).trans rfl; have hd1 : w2.cell? ⟨w.heap.size + 1, 1, none⟩ = some (.map none) := (blk_cell hr2 1).trans rfl; have hd2 : w2.cell? ⟨w.heap.size + 1, 2, none⟩ = some (.slice none 0 0) := (blk_cell hr2 2).trans rfl; have hd3 : w2.cell? ⟨w.heap.size + 1, 3, none⟩ = some (.slice none 0 0) := (blk_cell hr2 3).trans rfl; have hd4 : w2.cell? ⟨w.heap.size + 1, 4, none⟩ = some (.slice none 0 0) := (blk_cell hr2 4).trans rfl; have hf0 := blk_frozen hr2 0; have hf1 := blk_frozen hr2 1; have hf2 := blk_frozen hr2 2; have hf3 := blk_frozen hr2 3; have hf4 := blk_frozen hr2 4))
  have y0 : ((w2).setCell ⟨w.heap.size + 1, 0, none⟩ (.slice A0 n0 k0)).heap[w.heap.size + 1]? = some (.cells #[(.slice A0 n0 k0), (.map none), (.slice none 0 0), (.slice none 0 0), (.slice none 0 0)] 67 (0, 0)) := blk_put hr2 0 (.slice A0 n0 k0) rfl
  have y1 : (((w2).setCell ⟨w.heap.size + 1, 0, none⟩ (.slice A0 n0 k0)).setCell ⟨w.heap.size + 1, 1, none⟩ (.map (some bm))).heap[w.heap.size + 1]? = some (.cells #[(.slice A0 n0 k0), (.map (some bm)), (.slice none 0 0), (.slice none 0 0), (.slice none 0 0)] 67 (0, 0)) := blk_put y0 1 (.map (some bm)) rfl
  have y2 : ((((w2).setCell ⟨w.heap.size + 1, 0, none⟩ (.slice A0 n0 k0)).setCell ⟨w.heap.size + 1, 1, none⟩ (.map (some bm))).setCell ⟨w.heap.size + 1, 2, none⟩ (.slice A2 n2 k2)).heap[w.heap.size + 1]? = some (.cells #[(.slice A0 n0 k0), (.map (some bm)), (.slice A2 n2 k2), (.slice none 0 0), (.slice none 0 0)] 67 (0, 0)) := blk_put y1 2 (.slice A2 n2 k2) rfl
  have y3 : (((((w2).setCell ⟨w.heap.size + 1, 0, none⟩ (.slice A0 n0 k0)).setCell ⟨w.heap.size + 1, 1, none⟩ (.map (some bm))).setCell ⟨w.heap.size + 1, 2, none⟩ (.slice A2 n2 k2)).setCell ⟨w.heap.size + 1, 3, none⟩ (.slice A3 n3 k3)).heap[w.heap.size + 1]? = some (.cells #[(.slice A0 n0 k0), (.map (some bm)), (.slice A2 n2 k2), (.slice A3 n3 k3), (.slice none 0 0)] 67 (0, 0)) := blk_put y2 3 (.slice A3 n3 k3) rfl
  have y4 : ((((((w2).setCell ⟨w.heap.size + 1, 0, none⟩ (.slice A0 n0 k0)).setCell ⟨w.heap.size + 1, 1, none⟩ (.map (some bm))).setCell ⟨w.heap.size + 1, 2, none⟩ (.slice A2 n2 k2)).setCell ⟨w.heap.size + 1, 3, none⟩ (.slice A3 n3 k3)).setCell ⟨w.heap.size + 1, 4, none⟩ (.slice A4 n4 k4)).heap[w.heap.size + 1]? = some (.cells #[(.slice A0 n0 k0), (.map (some bm)), (.slice A2 n2 k2), (.slice A3 n3 k3), (.slice A4 n4 k4)] 67 (0, 0)) := blk_put y3 4 (.slice A4 n4 k4) rfl
  have hP : PathsAt W1 w2 (.agg #[(.slice A0 n0 k0), (.map (some bm)), (.slice A2 n2 k2), (.slice A3 n3 k3), (.slice A4 n4 k4)]) EF := ⟨bm, _, _, _, _, rfl, hl, hm, r0, r2, r3, r4, hne⟩
  refine bodyPost_ret (results_cell_row rfl _ _ (w.heap.size + 1) 67 #[(.slice A0 n0 k0), (.map (some bm)), (.slice A2 n2 k2), (.slice A3 n3 k3), (.slice A4 n4 k4)] (0, 0) _ rfl y4 Tryd.underlying67 rfl (by kernel_rfl)) rfl ?_
  have hk : ∀ k, k ≠ w.heap.size + 1 → ((((((w2).setCell ⟨w.heap.size + 1, 0, none⟩ (.slice A0 n0 k0)).setCell ⟨w.heap.size + 1, 1, none⟩ (.map (some bm))).setCell ⟨w.heap.size + 1, 2, none⟩ (.slice A2 n2 k2)).setCell ⟨w.heap.size + 1, 3, none⟩ (.slice A3 n3 k3)).setCell ⟨w.heap.size + 1, 4, none⟩ (.slice A4 n4 k4)).heap[k]? = w2.heap[k]? := fun k hk => by
    rw [Below.heap_setCell _ ⟨w.heap.size + 1, 4, none⟩ _ k hk, Below.heap_setCell _ ⟨w.heap.size + 1, 3, none⟩ _ k hk, Below.heap_setCell _ ⟨w.heap.size + 1, 2, none⟩ _ k hk, Below.heap_setCell _ ⟨w.heap.size + 1, 1, none⟩ _ k hk, Below.heap_setCell _ ⟨w.heap.size + 1, 0, none⟩ _ k hk]
  have hle : w.heap.size ≤ w.heap.size + 1 := Nat.le_succ _
  have hB2 := below_step hB1 hb2
  have hB := (((((hB2.setCell (p := ⟨w.heap.size + 1, 0, none⟩) hle (.slice A0 n0 k0)).setCell (p := ⟨w.heap.size + 1, 1, none⟩) hle (.map (some bm))).setCell (p := ⟨w.heap.size + 1, 2, none⟩) hle (.slice A2 n2 k2)).setCell (p := ⟨w.heap.size + 1, 3, none⟩) hle (.slice A3 n3 k3)).setCell (p := ⟨w.heap.size + 1, 4, none⟩) hle (.slice A4 n4 k4))
  clear y0 y1 y2 y3 y4
  generalize (((((w2).setCell ⟨w.heap.size + 1, 0, none⟩ (.slice A0 n0 k0)).setCell ⟨w.heap.size + 1, 1, none⟩ (.map (some bm))).setCell ⟨w.heap.size + 1, 2, none⟩ (.slice A2 n2 k2)).setCell ⟨w.heap.size + 1, 3, none⟩ (.slice A3 n3 k3)).setCell ⟨w.heap.size + 1, 4, none⟩ (.slice A4 n4 k4) = W9 at *
  exact ⟨_, rfl, (hP.move (w.heap.size + 1) (by omega) hr2 (by decide) (by decide) (by decide) hk).lower (by omega), hE, hB⟩
end
def impl_byRule.f (a0 : ByteArray) : Option (ByteArray) := none


end Go.Proofs.YtjgijaocinpkhaaDoor.XB
