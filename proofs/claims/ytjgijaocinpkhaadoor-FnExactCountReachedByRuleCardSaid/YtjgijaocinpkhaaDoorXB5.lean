/- The Lean functions that the Go functions of this seat compute, each with the proof that the Go function computes it, for every input (laws: FnExactCountReachedByRule, FnExactReachByRule). Conditions: none beyond those that each theorem names. Written by a program of this session over the kit's printer. -/
import Derived.Test.YtjgijaocinpkhaaDoorXB0
import Derived.Test.YtjgijaocinpkhaaDoorXB1
namespace Go.Proofs.YtjgijaocinpkhaaDoor.XB
open Go.RowKit Go.Proofs.YtjgijaocinpkhaaDoorW.PrintWords Go.Proofs.YtjgijaocinpkhaaDoorW.PrintLast Go.Proofs.YtjgijaocinpkhaaDoorW.PrintMore
attribute [local go_sem] max2_int min2_int max_two min_two max_three min_three max_four min_four   -- for this text's walks alone
attribute [local go_sem] Lib.run_min_strs Go.Proofs.YtjgijaocinpkhaaDoorXW.run_min2_strs Go.Proofs.YtjgijaocinpkhaaDoorXW.run_int_string
set_option linter.unusedVariables false
set_option linter.unusedSimpArgs false

/-! ### spec_liMake: function 74 -/
def spec_liMake.f (a0 : ByteArray) (a1_0 : Int) (a1_1 : Int) : Option (ByteArray) := if 0 ≤ a1_0 then (if a1_0 ≤ (wrap64 (a1_0 + 1)) then (if (wrap64 (a1_0 + 1)) ≤ (a0.size : Int) then ((spec_liPut.f a0 a1_0 (⟨#[46]⟩ : ByteArray)).bind fun t117 => ((spec_liPut.f t117 a1_1 (a0.extract (a1_0 : Int).toNat ((wrap64 (a1_0 + 1)) : Int).toNat)).bind fun t118 => (some t118))) else (none)) else (none)) else (none)
set_option maxHeartbeats 8000000 in
set_option maxRecDepth 100000 in
theorem spec_liMake.calls (a0 : ByteArray) (a1_0 : Int) (a1_1 : Int) (r : ByteArray) (w : World) (h : spec_liMake.f a0 a1_0 a1_1 = some r) :
    Calls Tryd.prog 74 #[.string a0, .agg #[.int .i64 a1_0, .int .i64 a1_1]] w fun e w' => e = .returned (.string r) ∧ Below w.heap.size w w' := by
  have hu83 := Tryd.underlying83
  have HB := Aside0.mk (Below.refl w.heap.size w)
  have H : (if 0 ≤ a1_0 then (if a1_0 ≤ (wrap64 (a1_0 + 1)) then (if (wrap64 (a1_0 + 1)) ≤ (a0.size : Int) then ((spec_liPut.f a0 a1_0 (⟨#[46]⟩ : ByteArray)).bind fun t117 => ((spec_liPut.f t117 a1_1 (a0.extract (a1_0 : Int).toNat ((wrap64 (a1_0 + 1)) : Int).toNat)).bind fun t118 => (some t118))) else (none)) else (none)) else (none)) = some r := h
  clear h
  by_cases c3 : 0 ≤ a1_0
  · rw [if_pos c3] at H
    have c3b0 := eq_true c3
    have c3b1 : decide (0 ≤ a1_0) = true := decide_eq_true c3
    clear c3
    by_cases c4 : a1_0 ≤ (wrap64 (a1_0 + 1))
    · rw [if_pos c4] at H
      have c4b0 := eq_true c4
      have c4b1 : decide (a1_0 ≤ (wrap64 (a1_0 + 1))) = true := decide_eq_true c4
      by_cases c5 : (wrap64 (a1_0 + 1)) ≤ (a0.size : Int)
      · rw [if_pos c5] at H
        have c5b0 := eq_true c5
        have c5b1 : decide ((wrap64 (a1_0 + 1)) ≤ (a0.size : Int)) = true := decide_eq_true c5
        replace H := Option.bind_eq_some_iff.mp H
        obtain ⟨t117, A60, H⟩ := H
        replace H : ((spec_liPut.f t117 a1_1 (a0.extract (a1_0 : Int).toNat ((wrap64 (a1_0 + 1)) : Int).toNat)).bind fun t118 => (some t118)) = some r := H
        have A6 := Aside0.mk A60
        clear A60
        replace H := Option.bind_eq_some_iff.mp H
        obtain ⟨t118, A70, H⟩ := H
        replace H : (some t118) = some r := H
        have A7 := Aside0.mk A70
        clear A70
        obtain rfl := Option.some.inj H
        go_enter Tryd.func74, Tryd.ntmps74
        go_wp2_with (first | ((with_reducible refine gate_dst (N := 3) rfl ?_); refine box_event ?hg (N := 3) ?hd (cs := #[.int .i64 a1_0, .int .i64 a1_1]) (t := 83) ?hr ?_; (case hd => rfl); (case hg => rfl); (case hr => first | (go_simp; done) | (go_simp; rfl)); intro gb116 hg w8 hbox hb; have n0_ := Aside0.mk (below_step (by repeat (first | (with_reducible first | exact HB.out | apply below_alloc | apply pw_below_drewN | apply below_drew1) | exact HB.out)) hb); have n1_ := Aside0.mk (hbox); have n2_ := Aside0.mk ((by rw [hg]; exact (below_size (by repeat (first | (with_reducible first | exact HB.out | apply below_alloc | apply pw_below_drewN | apply below_drew1) | exact HB.out))) : w.heap.size ≤ gb116)); have n3_ := Aside0.mk ((by rw [hg]; exact (below_size (by repeat (first | (with_reducible first | exact HB.out | apply below_alloc | apply pw_below_drewN | apply below_drew1) | exact HB.out))) : w.heap.size ≤ gb116)); clear HB; have HB := n0_; have BK116 := n1_; have GW116 := n2_; have GE116 := n3_; clear n0_ n1_ n2_ n3_; clear hb hbox hg; have hcz9_0 : w8.cell? ⟨gb116, 0, none⟩ = some (.int .i64 a1_0) := (blk_cell BK116.out 0).trans rfl; have hcz9_1 : w8.cell? ⟨gb116, 1, none⟩ = some (.int .i64 a1_1) := (blk_cell BK116.out 1).trans rfl; have hfz9_0 := blk_frozen BK116.out 0; have hfz9_1 := blk_frozen BK116.out 1) | (go_at_call 98; (with_reducible refine (spec_liPut.calls a0 a1_0 (⟨#[46]⟩ : ByteArray) t117 _ A6.out).mono ?_); rintro e w' ⟨rfl, ⟨nd, rfl⟩⟩; (try first | exact ⟨rfl, _, World.drewN_drewN _ _ _⟩ | exact ⟨rfl, _, Eq.trans (World.drewN_drewN _ _ _) (congrArg (World.drewN _) (Nat.add_assoc _ _ _))⟩)) | (go_at_call 98; (try refine Go.Proofs.YtjgijaocinpkhaaDoorXW.calls_args64 (by simp only [Go.Proofs.YtjgijaocinpkhaaDoorXW.wrapEq]; rfl) ?_); (with_reducible refine (spec_liPut.calls t117 a1_1 (a0.extract (a1_0 : Int).toNat ((wrap64 (a1_0 + 1)) : Int).toNat) t118 _ A7.out).mono ?_); rintro e w' ⟨rfl, ⟨nd, rfl⟩⟩; (try first | exact ⟨rfl, _, World.drewN_drewN _ _ _⟩ | exact ⟨rfl, _, Eq.trans (World.drewN_drewN _ _ _) (congrArg (World.drewN _) (Nat.add_assoc _ _ _))⟩)))
        repeat (go_quiet (first | ((with_reducible refine gate_dst (N := 3) rfl ?_); refine box_event ?hg (N := 3) ?hd (cs := #[.int .i64 a1_0, .int .i64 a1_1]) (t := 83) ?hr ?_; (case hd => rfl); (case hg => rfl); (case hr => first | (go_simp; done) | (go_simp; rfl)); intro gb116 hg w8 hbox hb; have n0_ := Aside0.mk (below_step (by repeat (first | (with_reducible first | exact HB.out | apply below_alloc | apply pw_below_drewN | apply below_drew1) | exact HB.out)) hb); have n1_ := Aside0.mk (hbox); have n2_ := Aside0.mk ((by rw [hg]; exact (below_size (by repeat (first | (with_reducible first | exact HB.out | apply below_alloc | apply pw_below_drewN | apply below_drew1) | exact HB.out))) : w.heap.size ≤ gb116)); have n3_ := Aside0.mk ((by rw [hg]; exact (below_size (by repeat (first | (with_reducible first | exact HB.out | apply below_alloc | apply pw_below_drewN | apply below_drew1) | exact HB.out))) : w.heap.size ≤ gb116)); clear HB; have HB := n0_; have BK116 := n1_; have GW116 := n2_; have GE116 := n3_; clear n0_ n1_ n2_ n3_; clear hb hbox hg; have hcz9_0 : w8.cell? ⟨gb116, 0, none⟩ = some (.int .i64 a1_0) := (blk_cell BK116.out 0).trans rfl; have hcz9_1 : w8.cell? ⟨gb116, 1, none⟩ = some (.int .i64 a1_1) := (blk_cell BK116.out 1).trans rfl; have hfz9_0 := blk_frozen BK116.out 0; have hfz9_1 := blk_frozen BK116.out 1) | (go_at_call 98; (with_reducible refine (spec_liPut.calls a0 a1_0 (⟨#[46]⟩ : ByteArray) t117 _ A6.out).mono ?_); rintro e w' ⟨rfl, ⟨nd, rfl⟩⟩; (try first | exact ⟨rfl, _, World.drewN_drewN _ _ _⟩ | exact ⟨rfl, _, Eq.trans (World.drewN_drewN _ _ _) (congrArg (World.drewN _) (Nat.add_assoc _ _ _))⟩)) | (go_at_call 98; (try refine Go.Proofs.YtjgijaocinpkhaaDoorXW.calls_args64 (by simp only [Go.Proofs.YtjgijaocinpkhaaDoorXW.wrapEq]; rfl) ?_); (with_reducible refine (spec_liPut.calls t117 a1_1 (a0.extract (a1_0 : Int).toNat ((wrap64 (a1_0 + 1)) : Int).toNat) t118 _ A7.out).mono ?_); rintro e w' ⟨rfl, ⟨nd, rfl⟩⟩; (try first | exact ⟨rfl, _, World.drewN_drewN _ _ _⟩ | exact ⟨rfl, _, Eq.trans (World.drewN_drewN _ _ _) (congrArg (World.drewN _) (Nat.add_assoc _ _ _))⟩))); try go_wp2_with (first | ((with_reducible refine gate_dst (N := 3) rfl ?_); refine box_event ?hg (N := 3) ?hd (cs := #[.int .i64 a1_0, .int .i64 a1_1]) (t := 83) ?hr ?_; (case hd => rfl); (case hg => rfl); (case hr => first | (go_simp; done) | (go_simp; rfl)); intro gb116 hg w8 hbox hb; have n0_ := Aside0.mk (below_step (by repeat (first | (with_reducible first | exact HB.out | apply below_alloc | apply pw_below_drewN | apply below_drew1) | exact HB.out)) hb); have n1_ := Aside0.mk (hbox); have n2_ := Aside0.mk ((by rw [hg]; exact (below_size (by repeat (first | (with_reducible first | exact HB.out | apply below_alloc | apply pw_below_drewN | apply below_drew1) | exact HB.out))) : w.heap.size ≤ gb116)); have n3_ := Aside0.mk ((by rw [hg]; exact (below_size (by repeat (first | (with_reducible first | exact HB.out | apply below_alloc | apply pw_below_drewN | apply below_drew1) | exact HB.out))) : w.heap.size ≤ gb116)); clear HB; have HB := n0_; have BK116 := n1_; have GW116 := n2_; have GE116 := n3_; clear n0_ n1_ n2_ n3_; clear hb hbox hg; have hcz9_0 : w8.cell? ⟨gb116, 0, none⟩ = some (.int .i64 a1_0) := (blk_cell BK116.out 0).trans rfl; have hcz9_1 : w8.cell? ⟨gb116, 1, none⟩ = some (.int .i64 a1_1) := (blk_cell BK116.out 1).trans rfl; have hfz9_0 := blk_frozen BK116.out 0; have hfz9_1 := blk_frozen BK116.out 1) | (go_at_call 98; (with_reducible refine (spec_liPut.calls a0 a1_0 (⟨#[46]⟩ : ByteArray) t117 _ A6.out).mono ?_); rintro e w' ⟨rfl, ⟨nd, rfl⟩⟩; (try first | exact ⟨rfl, _, World.drewN_drewN _ _ _⟩ | exact ⟨rfl, _, Eq.trans (World.drewN_drewN _ _ _) (congrArg (World.drewN _) (Nat.add_assoc _ _ _))⟩)) | (go_at_call 98; (try refine Go.Proofs.YtjgijaocinpkhaaDoorXW.calls_args64 (by simp only [Go.Proofs.YtjgijaocinpkhaaDoorXW.wrapEq]; rfl) ?_); (with_reducible refine (spec_liPut.calls t117 a1_1 (a0.extract (a1_0 : Int).toNat ((wrap64 (a1_0 + 1)) : Int).toNat) t118 _ A7.out).mono ?_); rintro e w' ⟨rfl, ⟨nd, rfl⟩⟩; (try first | exact ⟨rfl, _, World.drewN_drewN _ _ _⟩ | exact ⟨rfl, _, Eq.trans (World.drewN_drewN _ _ _) (congrArg (World.drewN _) (Nat.add_assoc _ _ _))⟩))))
        go_ret
        exact ⟨by first | rfl | (simp [errW_none, errW_some] <;> rfl) | (simp [*, errW_none, errW_some] <;> rfl), by repeat (first | (with_reducible first | exact HB.out | apply below_alloc | apply pw_below_drewN | apply below_drew1 | refine below_set ?_ GE116.out) | exact HB.out)⟩
      · rw [if_neg c5] at H
        exact absurd H (by simp)
    · rw [if_neg c4] at H
      exact absurd H (by simp)
  · rw [if_neg c3] at H
    exact absurd H (by simp)

/-! ### spec_reAdd: function 91 (given) -/
section
open Go Go.RowKit Go.Lib Go.Proofs.YtjgijaocinpkhaaDoorW.PrintWords Go.Proofs.YtjgijaocinpkhaaDoorW.PrintLast
/-- one text comes before another -/
def lsB (x y : ByteArray) : Bool := Op.bytesLess x.toList y.toList
theorem tl_inj {x y : ByteArray} (h : x.toList = y.toList) : x = y := by
  rw [ByteArray.toList_eq, ByteArray.toList_eq] at h
  cases x
  cases y
  congr 1
  exact Array.toList_inj.1 h
theorem lsB_irrefl (x : ByteArray) : lsB x x = false := by
  unfold lsB
  rw [bytesLess_eq]
  simp
theorem ls_total : ∀ (x y : List UInt8), Op.bytesLess x y = false → Op.bytesLess y x = true ∨ x = y
  | [], [], _ => .inr rfl
  | _ :: _, [], _ => .inl rfl
  | [], _ :: _, h => by simp [Op.bytesLess] at h
  | a :: x, b :: y, h => by
    simp only [Op.bytesLess, Bool.or_eq_false_iff, Bool.and_eq_false_iff, decide_eq_false_iff_not, beq_eq_false_iff_ne] at h
    obtain ⟨h1, h2⟩ := h
    by_cases e : a = b
    · subst e
      rcases h2 with h2 | h2
      · exact absurd rfl h2
      · rcases ls_total x y h2 with h3 | h3
        · exact .inl (by simp [Op.bytesLess, h3])
        · exact .inr (by rw [h3])
    · refine .inl ?_
      have h3 : b < a := by
        rw [UInt8.lt_iff_toNat_lt] at h1 ⊢
        have h4 : a.toNat ≠ b.toNat := fun h5 => e (UInt8.toNat_inj.1 h5)
        omega
      simp [Op.bytesLess, h3]
theorem lsB_total {x y : ByteArray} (h : lsB x y = false) (hne : x ≠ y) : lsB y x = true := by
  rcases ls_total _ _ h with h | h
  · exact h
  · exact absurd (tl_inj h) hne
theorem lsB_trans {x y z : ByteArray} (h : lsB x y = true) (h' : lsB y z = true) : lsB x z = true := by
  unfold lsB at *
  rw [bytesLess_eq, decide_eq_true_eq] at *
  exact List.lt_trans h h'
/-- texts in order, each once -/
def Srt (l : List ByteArray) : Prop := l.Pairwise fun a b => lsB a b = true
/-- in order, with one more -/
theorem ins_srt {l : List ByteArray} (hs : Srt l) {y : ByteArray} {lo : Nat} (h1 : ∀ j x, l[j]? = some x → j < lo → lsB x y = true) (h2 : ∀ j x, l[j]? = some x → lo ≤ j → lsB x y = false) (hn : l[lo]? ≠ some y) :
    y ∉ l ∧ Srt (l.take lo ++ [y] ++ l.drop lo) ∧ ∀ x, x ∈ l.take lo ++ [y] ++ l.drop lo ↔ x = y ∨ x ∈ l := by
  have hp := List.pairwise_iff_getElem.1 hs
  have hno : y ∉ l := fun hy => by
    obtain ⟨j, hj⟩ := List.mem_iff_getElem?.1 hy
    rcases Nat.lt_trichotomy j lo with h | h | h
    · have := h1 j y hj h
      rw [lsB_irrefl] at this
      cases this
    · subst h
      exact hn hj
    · obtain ⟨hjl, hje⟩ := List.getElem?_eq_some_iff.1 hj
      have h3 := hp lo j (by omega) hjl h
      rw [hje] at h3
      have h4 := h2 lo _ (List.getElem?_eq_getElem (by omega)) (Nat.le_refl _)
      rw [h3] at h4
      cases h4
  have e := List.take_append_drop lo l
  have hs2 := hs
  unfold Srt at hs2
  rw [← e, List.pairwise_append] at hs2
  obtain ⟨p1, p2, p3⟩ := hs2
  have q1 : ∀ x ∈ l.take lo, lsB x y = true := fun x hx => by
    obtain ⟨j, hj⟩ := List.mem_iff_getElem?.1 hx
    rw [List.getElem?_take] at hj
    split at hj
    · exact h1 j x hj (by assumption)
    · cases hj
  have q2 : ∀ x ∈ l.drop lo, lsB y x = true := fun x hx => by
    have hm := List.mem_of_mem_drop hx
    obtain ⟨j, hj⟩ := List.mem_iff_getElem?.1 hx
    rw [List.getElem?_drop] at hj
    exact lsB_total (h2 _ x hj (Nat.le_add_right _ _)) (fun e => hno (e ▸ hm))
  refine ⟨hno, ?_, fun x => ?_⟩
  · unfold Srt
    rw [List.append_assoc, List.pairwise_append]
    refine ⟨p1, List.pairwise_cons.2 ⟨q2, p2⟩, fun a ha b hb => ?_⟩
    rcases List.mem_cons.1 hb with rfl | hb
    · exact q1 a ha
    · exact p3 a ha b hb
  · rw [List.append_assoc, List.mem_append, List.singleton_append, List.mem_cons]
    have : x ∈ l ↔ x ∈ l.take lo ∨ x ∈ l.drop lo := by rw [← List.mem_append, e]
    rw [this]
    constructor
    · rintro (h | h | h)
      · exact .inr (.inl h)
      · exact .inl h
      · exact .inr (.inr h)
    · rintro (h | h | h)
      · exact .inr (.inl h)
      · exact .inl h
      · exact .inr (.inr h)
theorem ra_info9 : (Tryd.prog.info? 9).map (fun i => (i.zero, i.size, i.bytes)) = some (some (.string ⟨#[]⟩), 1, 16) := by kernel_rfl
set_option maxHeartbeats 4000000 in
set_option maxRecDepth 1000000 in
theorem spec_reAdd.walk (A : Option Addr) (c : Nat) (l : List ByteArray) (y : ByteArray) (w : World) (hl : l.length ≤ 1000000) (hc : l.length ≤ c) (hs : Srt l) (hr : Kd.C Kd.string w A l.length l) :
    Calls Tryd.prog 91 #[.slice A l.length c, .string y] w fun e w' => ((y ∈ l ∧ e = .returned (.slice A l.length c)) ∨ (y ∉ l ∧ ∃ v r, e = .returned v ∧ Kd.R Kd.string 9 w' w.heap.size (fun _ => True) v r ∧ r.length = l.length + 1 ∧ Srt r ∧ ∀ x, x ∈ r ↔ x = y ∨ x ∈ l)) ∧ Below w.heap.size w w' := by
  have HR := Aside0.mk hr
  have HS := Aside0.mk hs
  clear hr hs
  go_enter Tryd.func91, Tryd.ntmps91
  go_wp2
  go_loopw [5, 6] (fun v5 v6 wr => ∃ lo hi : Nat, v5 = .int .i64 (lo : Int) ∧ v6 = .int .i64 (hi : Int) ∧ lo ≤ hi ∧ hi ≤ l.length ∧ Aside0 (∀ j x, l[j]? = some x → j < lo → lsB x y = true) ∧ Aside0 (∀ j x, l[j]? = some x → hi ≤ j → lsB x y = false) ∧ wr = w) (fun v5 v6 _ => (RowKit.intOf v6 - RowKit.intOf v5).toNat)
  case atStart => exact ⟨0, l.length, rfl, rfl, Nat.zero_le _, Nat.le_refl _, Aside0.mk (fun j x _ h => by omega), Aside0.mk (fun j x h1 h2 => by have := (List.getElem?_eq_some_iff.1 h1).1; omega), rfl⟩
  case round =>
    obtain ⟨lo, hi, rfl, rfl, hlh, hhl, H1, H2, hwr⟩ := hrel
    replace hwr := hwr.symm
    subst hwr
    by_cases hlt : lo < hi
    · have hdec : decide ((lo : Int) < (hi : Int)) = true := decide_eq_true (by omega)
      obtain ⟨m, hm⟩ : ∃ m : Nat, m = (lo + hi) / 2 := ⟨_, rfl⟩
      have hq : Int.tdiv ((lo : Int) + (hi : Int)) 2 = (m : Int) := by
        rw [Int.tdiv_eq_ediv_of_nonneg (by omega)]
        omega
      have hml : m < l.length := by omega
      have hlm : lo ≤ m := by omega
      have hmh : m < hi := by omega
      have hq2 := hm
      clear hm
      have hm0 : (0 : Int) ≤ (m : Int) := Int.natCast_nonneg _
      obtain ⟨ad, ead, hx⟩ := Kd.at_string HR.out (m : Int) hm0 (by omega)
      cases ead
      rw [Int.toNat_natCast] at hx
      have he : l[m]? = some (rdOf ByteArray.empty l (m : Int)) := by
        unfold rdOf
        rw [Int.toNat_natCast, List.getD_eq_getElem?_getD, List.getElem?_eq_getElem hml]
        rfl
      generalize rdOf ByteArray.empty l (m : Int) = z at *
      cases hz : lsB z y with
      | true =>
        have hz' : Op.bytesLess z.toList y.toList = true := hz
        have H3 : Aside0 (∀ j x, l[j]? = some x → j < m + 1 → lsB x y = true) := Aside0.mk (fun j x hj hlt' => by
          have h := List.pairwise_iff_getElem.1 HS.out
          obtain ⟨hjl, hje⟩ := List.getElem?_eq_some_iff.1 hj
          obtain ⟨hml', hme⟩ := List.getElem?_eq_some_iff.1 he
          rcases Nat.lt_or_ge j m with g | g
          · have h3 := h j m hjl hml' g
            rw [hje, hme] at h3
            exact lsB_trans h3 hz
          · have : j = m := by omega
            subst this
            rw [hj] at he
            cases he
            exact hz)
        clear he H1 hz hq2
        go_wp2
        exact ⟨⟨m + 1, hi, rfl, rfl, by omega, hhl, H3, H2, (by first | rfl | trivial)⟩, by simp [RowKit.intOf]; omega⟩
      | false =>
        have hz' : Op.bytesLess z.toList y.toList = false := hz
        have H3 : Aside0 (∀ j x, l[j]? = some x → m ≤ j → lsB x y = false) := Aside0.mk (fun j x hj hle => by
          have h := List.pairwise_iff_getElem.1 HS.out
          obtain ⟨hjl, hje⟩ := List.getElem?_eq_some_iff.1 hj
          obtain ⟨hml', hme⟩ := List.getElem?_eq_some_iff.1 he
          rcases Nat.lt_or_ge m j with g | g
          · have h3 := h m j hml' hjl g
            rw [hje, hme] at h3
            cases hxy : lsB x y with
            | false => rfl
            | true => rw [lsB_trans h3 hxy] at hz; cases hz
          · have : j = m := by omega
            subst this
            rw [hj] at he
            cases he
            exact hz)
        clear he H2 hz hq2
        go_wp2
        exact ⟨⟨lo, m, rfl, rfl, by omega, by omega, H1, H3, (by first | rfl | trivial)⟩, by simp [RowKit.intOf]; omega⟩
    · have hdec : decide ((lo : Int) < (hi : Int)) = false := decide_eq_false (by omega)
      have hlh2 : lo = hi := by omega
      subst hlh2
      obtain ⟨i0, hi0, _, hsz0, _⟩ := info_parts ra_info9
      have hlo0 : (0 : Int) ≤ (lo : Int) := Int.natCast_nonneg _
      have hloc : (lo : Int) ≤ (l.length : Int) := by omega
      have HTL : Hid ((l.take lo).length = lo) := Lib.hid (by rw [List.length_take]; omega)
      have hcut1 := cut_to (P := Tryd.prog) 22 9 .i64 Tryd.underlying22 hi0 A l.length c (lo : Int) hlo0 hloc hc
      have hcut2 := cut_from (P := Tryd.prog) 22 9 .i64 Tryd.underlying22 hi0 1 hsz0 A l.length c (lo : Int) hlo0 hloc
      rw [Int.toNat_natCast] at hcut1 hcut2
      have HT : Aside0 (∀ w1, Below w.heap.size w w1 → Kd.C Kd.string w1 A lo (l.take lo)) := Aside0.mk (fun w1 hb => by
        have h := Kd.C_take (m := lo) (Kd.C_below HR.out hb) hhl
        rw [HTL.out] at h
        exact h)
      obtain ⟨A2, hA2⟩ : ∃ A2, A2 = (if c = lo then A else A.map (·.add (lo * 1))) := ⟨_, rfl⟩
      obtain ⟨n2, hn2⟩ : ∃ n2, n2 = l.length - lo := ⟨_, rfl⟩
      obtain ⟨c2, hc2⟩ : ∃ c2, c2 = c - lo := ⟨_, rfl⟩
      have HD : Aside0 (∀ w1, Below w.heap.size w w1 → Kd.C Kd.string w1 A2 n2 (l.drop lo)) := Aside0.mk (fun w1 hb => by
        have h := Kd.C_drop (m := lo) (c := c) (Kd.C_below HR.out hb) hhl hc
        rw [List.length_drop, ← hn2] at h
        rw [hA2]
        exact h)
      have HN2 : Hid (n2 = l.length - lo ∧ lo ≤ l.length) := Lib.hid ⟨hn2, hhl⟩
      rw [← hA2, ← hn2, ← hc2] at hcut2
      clear hA2 hn2 hc2 hi0 hsz0
      by_cases hin : lo < l.length
      · have hd2 : decide ((lo : Int) < (l.length : Int)) = true := decide_eq_true (by omega)
        obtain ⟨ad, ead, hx⟩ := Kd.at_string HR.out (lo : Int) hlo0 (by omega)
        cases ead
        rw [Int.toNat_natCast] at hx
        have he : l[lo]? = some (rdOf ByteArray.empty l (lo : Int)) := by
          unfold rdOf
          rw [Int.toNat_natCast, List.getD_eq_getElem?_getD, List.getElem?_eq_getElem hin]
          rfl
        generalize rdOf ByteArray.empty l (lo : Int) = z at *
        by_cases hz : z = y
        · subst hz
          have hz' : (z.toList == z.toList) = true := beq_self_eq_true _
          clear hcut1 hcut2
          go_wp2
          go_ret
          exact ⟨Or.inl ⟨List.mem_of_getElem? he, rfl⟩, Below.refl _ _⟩
        · have hz' : (z.toList == y.toList) = false := beq_eq_false_iff_ne.2 (fun e => hz (tl_inj e))
          obtain ⟨hno, hsr, hmm⟩ := ins_srt HS.out H1.out H2.out (by rw [he]; intro e; exact hz (Option.some.inj e))
          clear hz he
          (go_wp2_with (first
          | ((with_reducible refine gate_dst (N := 40) rfl ?_); refine Kd.R_lit (w0 := w) Kd.string w.heap.size 9 ?hg (N := 40) ?hd (xs := ([] : List ByteArray)) (inner := []) (ok := fun _ => True) (okp := fun _ => True) ?hr ?hp (fun _ hk => hk) trivial (Below.refl _ _) (Nat.le_refl _) (by simp) ?_; (case hd => rfl); (case hg => rfl); (case hr => first | (go_simp; done) | (go_simp; rfl)); (case hp => exact (Reps.none _ _)); intro v1 w1 ho1 hb1 hg1 hx1; clear hg1 hx1; have hC1 := HT.out w1 hb1)
          | ((with_reducible refine gate_builtin (b := .append) (xs := #[.tmp 40, .tmp 43]) rfl ?_); at_builtin; refine Kd.R_append_rows Kd.string (w0 := w) w.heap.size rfl (.tmp 40) (.tmp 43) 22 9 (.string ⟨#[]⟩) 16 rfl Tryd.underlying22 ra_info9 rfl (by decide) (by omega) v1 [] (l.take lo) _ lo c (fun _ => True) (fun _ => False) rfl rfl ho1 hC1 (fun _ _ h => h) (fun _ h => h.elim) (fun _ _ => trivial) hb1 (below_size hb1) (by simp; omega) ?_; intro v2 w2 ho2 hb2 hg2 hx2; clear hg2 hx2)
          | ((with_reducible refine gate_builtin (b := .append) (xs := #[.tmp 44, .tmp 46]) rfl ?_); at_builtin; refine Kd.R_append Kd.string (w0 := w) w.heap.size rfl (.tmp 44) (.tmp 46) 22 9 (.string ⟨#[]⟩) 16 rfl Tryd.underlying22 ra_info9 rfl (by decide) (by omega) v2 _ y [.string y] (fun _ => True) (fun _ => False) rfl rfl (by exact rfl) (fun _ hk => hk.elim) (fun _ _ => trivial) ho2 hb2 (below_size hb2) (by have h1 := HTL.out; simp only [List.nil_append, List.length_append, List.length_singleton]; omega) ?_; intro v3 w3 ho3 hb3 hg3 hx3; clear hg3 hx3; have hC3 := HD.out w3 hb3)
          | ((with_reducible refine gate_builtin (b := .append) (xs := #[.tmp 48, .tmp 51]) rfl ?_); at_builtin; refine Kd.R_append_rows Kd.string (w0 := w) w.heap.size rfl (.tmp 48) (.tmp 51) 22 9 (.string ⟨#[]⟩) 16 rfl Tryd.underlying22 ra_info9 rfl (by decide) (by omega) v3 _ (l.drop lo) A2 n2 c2 (fun _ => True) (fun _ => False) rfl rfl ho3 hC3 (fun _ _ h => h) (fun _ h => h.elim) (fun _ _ => trivial) hb3 (below_size hb3) (by have h1 := HTL.out; have h2 := HN2.out; simp only [List.nil_append, List.length_append, List.length_singleton]; omega) ?_; intro v4 w4 ho4 hb4 hg4 hx4; clear hg4 hx4)))
          go_ret
          rw [List.nil_append] at ho4
          exact ⟨Or.inr ⟨hno, v4, _, rfl, ho4, by have := HTL.out; have := HN2.out; simp only [List.length_append, List.length_drop, List.length_singleton]; omega, hsr, hmm⟩, hb4⟩
      · have hd2 : decide ((lo : Int) < (l.length : Int)) = false := decide_eq_false (by omega)
        obtain ⟨hno, hsr, hmm⟩ := ins_srt HS.out H1.out H2.out (by rw [List.getElem?_eq_none (by omega)]; intro e; cases e)
        (go_wp2_with (first
          | ((with_reducible refine gate_dst (N := 40) rfl ?_); refine Kd.R_lit (w0 := w) Kd.string w.heap.size 9 ?hg (N := 40) ?hd (xs := ([] : List ByteArray)) (inner := []) (ok := fun _ => True) (okp := fun _ => True) ?hr ?hp (fun _ hk => hk) trivial (Below.refl _ _) (Nat.le_refl _) (by simp) ?_; (case hd => rfl); (case hg => rfl); (case hr => first | (go_simp; done) | (go_simp; rfl)); (case hp => exact (Reps.none _ _)); intro v1 w1 ho1 hb1 hg1 hx1; clear hg1 hx1; have hC1 := HT.out w1 hb1)
          | ((with_reducible refine gate_builtin (b := .append) (xs := #[.tmp 40, .tmp 43]) rfl ?_); at_builtin; refine Kd.R_append_rows Kd.string (w0 := w) w.heap.size rfl (.tmp 40) (.tmp 43) 22 9 (.string ⟨#[]⟩) 16 rfl Tryd.underlying22 ra_info9 rfl (by decide) (by omega) v1 [] (l.take lo) _ lo c (fun _ => True) (fun _ => False) rfl rfl ho1 hC1 (fun _ _ h => h) (fun _ h => h.elim) (fun _ _ => trivial) hb1 (below_size hb1) (by simp; omega) ?_; intro v2 w2 ho2 hb2 hg2 hx2; clear hg2 hx2)
          | ((with_reducible refine gate_builtin (b := .append) (xs := #[.tmp 44, .tmp 46]) rfl ?_); at_builtin; refine Kd.R_append Kd.string (w0 := w) w.heap.size rfl (.tmp 44) (.tmp 46) 22 9 (.string ⟨#[]⟩) 16 rfl Tryd.underlying22 ra_info9 rfl (by decide) (by omega) v2 _ y [.string y] (fun _ => True) (fun _ => False) rfl rfl (by exact rfl) (fun _ hk => hk.elim) (fun _ _ => trivial) ho2 hb2 (below_size hb2) (by have h1 := HTL.out; simp only [List.nil_append, List.length_append, List.length_singleton]; omega) ?_; intro v3 w3 ho3 hb3 hg3 hx3; clear hg3 hx3; have hC3 := HD.out w3 hb3)
          | ((with_reducible refine gate_builtin (b := .append) (xs := #[.tmp 48, .tmp 51]) rfl ?_); at_builtin; refine Kd.R_append_rows Kd.string (w0 := w) w.heap.size rfl (.tmp 48) (.tmp 51) 22 9 (.string ⟨#[]⟩) 16 rfl Tryd.underlying22 ra_info9 rfl (by decide) (by omega) v3 _ (l.drop lo) A2 n2 c2 (fun _ => True) (fun _ => False) rfl rfl ho3 hC3 (fun _ _ h => h) (fun _ h => h.elim) (fun _ _ => trivial) hb3 (below_size hb3) (by have h1 := HTL.out; have h2 := HN2.out; simp only [List.nil_append, List.length_append, List.length_singleton]; omega) ?_; intro v4 w4 ho4 hb4 hg4 hx4; clear hg4 hx4)))
        go_ret
        rw [List.nil_append] at ho4
        exact ⟨Or.inr ⟨hno, v4, _, rfl, ho4, by have := HTL.out; have := HN2.out; simp only [List.length_append, List.length_drop, List.length_singleton]; omega, hsr, hmm⟩, hb4⟩
end
def spec_reAdd.f (a0 : Int) : Option (Int) := none
theorem spec_reAdd.calls : True := trivial


end Go.Proofs.YtjgijaocinpkhaaDoor.XB
