/- The Lean functions that the Go functions of this seat compute, each with the proof that the Go function computes it, for every input (laws: FnExactBothWays). Conditions: none beyond those that each theorem names. Written by a program of this session over the kit's printer. -/
import Derived.Test.YtjgijaocinpkhaaDoorT2XT0
import Derived.Test.YtjgijaocinpkhaaDoorT2XT2
import Derived.Test.YtjgijaocinpkhaaDoorT2XT4
namespace Go.Proofs.YtjgijaocinpkhaaDoor.XT
open Go.RowKit Go.Proofs.YtjgijaocinpkhaaDoorW.PrintWords Go.Proofs.YtjgijaocinpkhaaDoorW.PrintLast Go.Proofs.YtjgijaocinpkhaaDoorW.PrintMore
attribute [local go_sem] max2_int min2_int max_two min_two max_three min_three max_four min_four   -- for this text's walks alone
attribute [local go_sem] Lib.run_min_strs Go.Proofs.YtjgijaocinpkhaaDoorXW.run_min2_strs Go.Proofs.YtjgijaocinpkhaaDoorXW.run_int_string
set_option linter.unusedVariables false
set_option linter.unusedSimpArgs false

/-! ### spec_ruReach: function 56 (given) -/
section
open Go Go.RowKit Go.Lib Go.Proofs.YtjgijaocinpkhaaDoorW.PrintWords Go.Proofs.YtjgijaocinpkhaaDoorW.PrintLast Go.Proofs.YtjgijaocinpkhaaDoor.Pm Go.Proofs.YtjgijaocinpkhaaDoor.Srts
theorem ra_info9 : (Tryd.prog.info? 9).map (fun i => (i.zero, i.size, i.bytes)) = some (some (.string ⟨#[]⟩), 1, 16) := by kernel_rfl
set_option maxHeartbeats 4000000 in
set_option maxRecDepth 1000000 in
theorem reAddW.walk (A : Option Addr) (c : Nat) (l : List ByteArray) (y : ByteArray) (w : World) (hl : l.length ≤ 1000000) (hc : l.length ≤ c) (hs : Srt l) (hr : Kd.C Kd.string w A l.length l) :
    Calls Tryd.prog 91 #[.slice A l.length c, .string y] w fun e w' => ((y ∈ l ∧ e = .returned (.slice A l.length c)) ∨ (y ∉ l ∧ ∃ v r, e = .returned v ∧ Kd.R Kd.string 9 w' w.heap.size (fun _ => True) v r ∧ r.length = l.length + 1 ∧ Srt r ∧ ∀ x, x ∈ r ↔ x = y ∨ x ∈ l)) ∧ Below w.heap.size w w' := by
  have HR := Aside0.mk hr
  have HS := Aside0.mk hs
  clear hr hs
  go_enter Tryd.func91, Tryd.ntmps91
  go_wp2
  go_loopw [5, 6] (fun v5 v6 wr => ∃ lo hi : Nat, v5 = .int .i64 (lo : Int) ∧ v6 = .int .i64 (hi : Int) ∧ lo ≤ hi ∧ hi ≤ l.length ∧ Aside0 (∀ j x, l[j]? = some x → j < lo → lsB x y = true) ∧ Aside0 (∀ j x, l[j]? = some x → hi ≤ j → lsB x y = false) ∧ wr = w) (fun v5 v6 _ => (RowKit.intOf v6 - RowKit.intOf v5).toNat)
  case atStart => exact ⟨0, l.length, rfl, rfl, Nat.zero_le _, Nat.le_refl _, Aside0.mk (fun j x _ h => by omega), Aside0.mk (fun j x h1 h2 => by have := (List.getElem?_eq_some_iff.1 h1).1; omega), rfl⟩
  case round =>
    obtain ⟨lo, hi, rfl, rfl, hlh, hhl, H1, H2, hwr⟩ := hrel
    replace hwr := hwr.symm
    subst hwr
    by_cases hlt : lo < hi
    · have hdec : decide ((lo : Int) < (hi : Int)) = true := decide_eq_true (by omega)
      obtain ⟨m, hm⟩ : ∃ m : Nat, m = (lo + hi) / 2 := ⟨_, rfl⟩
      have hq : Int.tdiv ((lo : Int) + (hi : Int)) 2 = (m : Int) := by
        rw [Int.tdiv_eq_ediv_of_nonneg (by omega)]
        omega
      have hml : m < l.length := by omega
      have hlm : lo ≤ m := by omega
      have hmh : m < hi := by omega
      have hq2 := hm
      clear hm
      have hm0 : (0 : Int) ≤ (m : Int) := Int.natCast_nonneg _
      obtain ⟨ad, ead, hx⟩ := Kd.at_string HR.out (m : Int) hm0 (by omega)
      cases ead
      rw [Int.toNat_natCast] at hx
      have he : l[m]? = some (rdOf ByteArray.empty l (m : Int)) := by
        unfold rdOf
        rw [Int.toNat_natCast, List.getD_eq_getElem?_getD, List.getElem?_eq_getElem hml]
        rfl
      generalize rdOf ByteArray.empty l (m : Int) = z at *
      cases hz : lsB z y with
      | true =>
        have hz' : Op.bytesLess z.toList y.toList = true := hz
        have H3 : Aside0 (∀ j x, l[j]? = some x → j < m + 1 → lsB x y = true) := Aside0.mk (fun j x hj hlt' => by
          have h := List.pairwise_iff_getElem.1 HS.out
          obtain ⟨hjl, hje⟩ := List.getElem?_eq_some_iff.1 hj
          obtain ⟨hml', hme⟩ := List.getElem?_eq_some_iff.1 he
          rcases Nat.lt_or_ge j m with g | g
          · have h3 := h j m hjl hml' g
            rw [hje, hme] at h3
            exact lsB_trans h3 hz
          · have : j = m := by omega
            subst this
            rw [hj] at he
            cases he
            exact hz)
        clear he H1 hz hq2
        go_wp2
        exact ⟨⟨m + 1, hi, rfl, rfl, by omega, hhl, H3, H2, (by first | rfl | trivial)⟩, by simp [RowKit.intOf]; omega⟩
      | false =>
        have hz' : Op.bytesLess z.toList y.toList = false := hz
        have H3 : Aside0 (∀ j x, l[j]? = some x → m ≤ j → lsB x y = false) := Aside0.mk (fun j x hj hle => by
          have h := List.pairwise_iff_getElem.1 HS.out
          obtain ⟨hjl, hje⟩ := List.getElem?_eq_some_iff.1 hj
          obtain ⟨hml', hme⟩ := List.getElem?_eq_some_iff.1 he
          rcases Nat.lt_or_ge m j with g | g
          · have h3 := h m j hml' hjl g
            rw [hje, hme] at h3
            cases hxy : lsB x y with
            | false => rfl
            | true => rw [lsB_trans h3 hxy] at hz; cases hz
          · have : j = m := by omega
            subst this
            rw [hj] at he
            cases he
            exact hz)
        clear he H2 hz hq2
        go_wp2
        exact ⟨⟨lo, m, rfl, rfl, by omega, by omega, H1, H3, (by first | rfl | trivial)⟩, by simp [RowKit.intOf]; omega⟩
    · have hdec : decide ((lo : Int) < (hi : Int)) = false := decide_eq_false (by omega)
      have hlh2 : lo = hi := by omega
      subst hlh2
      obtain ⟨i0, hi0, _, hsz0, _⟩ := info_parts ra_info9
      have hlo0 : (0 : Int) ≤ (lo : Int) := Int.natCast_nonneg _
      have hloc : (lo : Int) ≤ (l.length : Int) := by omega
      have HTL : Hid ((l.take lo).length = lo) := Lib.hid (by rw [List.length_take]; omega)
      have hcut1 := cut_to (P := Tryd.prog) 22 9 .i64 Tryd.underlying22 hi0 A l.length c (lo : Int) hlo0 hloc hc
      have hcut2 := cut_from (P := Tryd.prog) 22 9 .i64 Tryd.underlying22 hi0 1 hsz0 A l.length c (lo : Int) hlo0 hloc
      rw [Int.toNat_natCast] at hcut1 hcut2
      have HT : Aside0 (∀ w1, Below w.heap.size w w1 → Kd.C Kd.string w1 A lo (l.take lo)) := Aside0.mk (fun w1 hb => by
        have h := Kd.C_take (m := lo) (Kd.C_below HR.out hb) hhl
        rw [HTL.out] at h
        exact h)
      obtain ⟨A2, hA2⟩ : ∃ A2, A2 = (if c = lo then A else A.map (·.add (lo * 1))) := ⟨_, rfl⟩
      obtain ⟨n2, hn2⟩ : ∃ n2, n2 = l.length - lo := ⟨_, rfl⟩
      obtain ⟨c2, hc2⟩ : ∃ c2, c2 = c - lo := ⟨_, rfl⟩
      have HD : Aside0 (∀ w1, Below w.heap.size w w1 → Kd.C Kd.string w1 A2 n2 (l.drop lo)) := Aside0.mk (fun w1 hb => by
        have h := Kd.C_drop (m := lo) (c := c) (Kd.C_below HR.out hb) hhl hc
        rw [List.length_drop, ← hn2] at h
        rw [hA2]
        exact h)
      have HN2 : Hid (n2 = l.length - lo ∧ lo ≤ l.length) := Lib.hid ⟨hn2, hhl⟩
      rw [← hA2, ← hn2, ← hc2] at hcut2
      clear hA2 hn2 hc2 hi0 hsz0
      by_cases hin : lo < l.length
      · have hd2 : decide ((lo : Int) < (l.length : Int)) = true := decide_eq_true (by omega)
        obtain ⟨ad, ead, hx⟩ := Kd.at_string HR.out (lo : Int) hlo0 (by omega)
        cases ead
        rw [Int.toNat_natCast] at hx
        have he : l[lo]? = some (rdOf ByteArray.empty l (lo : Int)) := by
          unfold rdOf
          rw [Int.toNat_natCast, List.getD_eq_getElem?_getD, List.getElem?_eq_getElem hin]
          rfl
        generalize rdOf ByteArray.empty l (lo : Int) = z at *
        by_cases hz : z = y
        · subst hz
          have hz' : (z.toList == z.toList) = true := beq_self_eq_true _
          clear hcut1 hcut2
          go_wp2
          go_ret
          exact ⟨Or.inl ⟨List.mem_of_getElem? he, rfl⟩, Below.refl _ _⟩
        · have hz' : (z.toList == y.toList) = false := beq_eq_false_iff_ne.2 (fun e => hz (tl_inj e))
          obtain ⟨hno, hsr, hmm⟩ := ins_srt HS.out H1.out H2.out (by rw [he]; intro e; exact hz (Option.some.inj e))
          clear hz he
          (go_wp2_with (first
          | ((with_reducible refine gate_dst (N := 40) rfl ?_); refine Kd.R_lit (w0 := w) Kd.string w.heap.size 9 ?hg (N := 40) ?hd (xs := ([] : List ByteArray)) (inner := []) (ok := fun _ => True) (okp := fun _ => True) ?hr ?hp (fun _ hk => hk) trivial (Below.refl _ _) (Nat.le_refl _) (by simp) ?_; (case hd => rfl); (case hg => rfl); (case hr => first | (go_simp; done) | (go_simp; rfl)); (case hp => exact (Reps.none _ _)); intro v1 w1 ho1 hb1 hg1 hx1; clear hg1 hx1; have hC1 := HT.out w1 hb1)
          | ((with_reducible refine gate_builtin (b := .append) (xs := #[.tmp 40, .tmp 43]) rfl ?_); at_builtin; refine Kd.R_append_rows Kd.string (w0 := w) w.heap.size rfl (.tmp 40) (.tmp 43) 22 9 (.string ⟨#[]⟩) 16 rfl Tryd.underlying22 ra_info9 rfl (by decide) (by omega) v1 [] (l.take lo) _ lo c (fun _ => True) (fun _ => False) rfl rfl ho1 hC1 (fun _ _ h => h) (fun _ h => h.elim) (fun _ _ => trivial) hb1 (below_size hb1) (by simp; omega) ?_; intro v2 w2 ho2 hb2 hg2 hx2; clear hg2 hx2)
          | ((with_reducible refine gate_builtin (b := .append) (xs := #[.tmp 44, .tmp 46]) rfl ?_); at_builtin; refine Kd.R_append Kd.string (w0 := w) w.heap.size rfl (.tmp 44) (.tmp 46) 22 9 (.string ⟨#[]⟩) 16 rfl Tryd.underlying22 ra_info9 rfl (by decide) (by omega) v2 _ y [.string y] (fun _ => True) (fun _ => False) rfl rfl (by exact rfl) (fun _ hk => hk.elim) (fun _ _ => trivial) ho2 hb2 (below_size hb2) (by have h1 := HTL.out; simp only [List.nil_append, List.length_append, List.length_singleton]; omega) ?_; intro v3 w3 ho3 hb3 hg3 hx3; clear hg3 hx3; have hC3 := HD.out w3 hb3)
          | ((with_reducible refine gate_builtin (b := .append) (xs := #[.tmp 48, .tmp 51]) rfl ?_); at_builtin; refine Kd.R_append_rows Kd.string (w0 := w) w.heap.size rfl (.tmp 48) (.tmp 51) 22 9 (.string ⟨#[]⟩) 16 rfl Tryd.underlying22 ra_info9 rfl (by decide) (by omega) v3 _ (l.drop lo) A2 n2 c2 (fun _ => True) (fun _ => False) rfl rfl ho3 hC3 (fun _ _ h => h) (fun _ h => h.elim) (fun _ _ => trivial) hb3 (below_size hb3) (by have h1 := HTL.out; have h2 := HN2.out; simp only [List.nil_append, List.length_append, List.length_singleton]; omega) ?_; intro v4 w4 ho4 hb4 hg4 hx4; clear hg4 hx4)))
          go_ret
          rw [List.nil_append] at ho4
          exact ⟨Or.inr ⟨hno, v4, _, rfl, ho4, by have := HTL.out; have := HN2.out; simp only [List.length_append, List.length_drop, List.length_singleton]; omega, hsr, hmm⟩, hb4⟩
      · have hd2 : decide ((lo : Int) < (l.length : Int)) = false := decide_eq_false (by omega)
        obtain ⟨hno, hsr, hmm⟩ := ins_srt HS.out H1.out H2.out (by rw [List.getElem?_eq_none (by omega)]; intro e; cases e)
        (go_wp2_with (first
          | ((with_reducible refine gate_dst (N := 40) rfl ?_); refine Kd.R_lit (w0 := w) Kd.string w.heap.size 9 ?hg (N := 40) ?hd (xs := ([] : List ByteArray)) (inner := []) (ok := fun _ => True) (okp := fun _ => True) ?hr ?hp (fun _ hk => hk) trivial (Below.refl _ _) (Nat.le_refl _) (by simp) ?_; (case hd => rfl); (case hg => rfl); (case hr => first | (go_simp; done) | (go_simp; rfl)); (case hp => exact (Reps.none _ _)); intro v1 w1 ho1 hb1 hg1 hx1; clear hg1 hx1; have hC1 := HT.out w1 hb1)
          | ((with_reducible refine gate_builtin (b := .append) (xs := #[.tmp 40, .tmp 43]) rfl ?_); at_builtin; refine Kd.R_append_rows Kd.string (w0 := w) w.heap.size rfl (.tmp 40) (.tmp 43) 22 9 (.string ⟨#[]⟩) 16 rfl Tryd.underlying22 ra_info9 rfl (by decide) (by omega) v1 [] (l.take lo) _ lo c (fun _ => True) (fun _ => False) rfl rfl ho1 hC1 (fun _ _ h => h) (fun _ h => h.elim) (fun _ _ => trivial) hb1 (below_size hb1) (by simp; omega) ?_; intro v2 w2 ho2 hb2 hg2 hx2; clear hg2 hx2)
          | ((with_reducible refine gate_builtin (b := .append) (xs := #[.tmp 44, .tmp 46]) rfl ?_); at_builtin; refine Kd.R_append Kd.string (w0 := w) w.heap.size rfl (.tmp 44) (.tmp 46) 22 9 (.string ⟨#[]⟩) 16 rfl Tryd.underlying22 ra_info9 rfl (by decide) (by omega) v2 _ y [.string y] (fun _ => True) (fun _ => False) rfl rfl (by exact rfl) (fun _ hk => hk.elim) (fun _ _ => trivial) ho2 hb2 (below_size hb2) (by have h1 := HTL.out; simp only [List.nil_append, List.length_append, List.length_singleton]; omega) ?_; intro v3 w3 ho3 hb3 hg3 hx3; clear hg3 hx3; have hC3 := HD.out w3 hb3)
          | ((with_reducible refine gate_builtin (b := .append) (xs := #[.tmp 48, .tmp 51]) rfl ?_); at_builtin; refine Kd.R_append_rows Kd.string (w0 := w) w.heap.size rfl (.tmp 48) (.tmp 51) 22 9 (.string ⟨#[]⟩) 16 rfl Tryd.underlying22 ra_info9 rfl (by decide) (by omega) v3 _ (l.drop lo) A2 n2 c2 (fun _ => True) (fun _ => False) rfl rfl ho3 hC3 (fun _ _ h => h) (fun _ h => h.elim) (fun _ _ => trivial) hb3 (below_size hb3) (by have h1 := HTL.out; have h2 := HN2.out; simp only [List.nil_append, List.length_append, List.length_singleton]; omega) ?_; intro v4 w4 ho4 hb4 hg4 hx4; clear hg4 hx4)))
        go_ret
        rw [List.nil_append] at ho4
        exact ⟨Or.inr ⟨hno, v4, _, rfl, ho4, by have := HTL.out; have := HN2.out; simp only [List.length_append, List.length_drop, List.length_singleton]; omega, hsr, hmm⟩, hb4⟩
/-- the moves of a text by the reference, each behind the other: what is new is set down -/
def visitS (i d : Nat) (x : ByteArray) : List S83 → List PEnt → Option (List PEnt)
  | [], E => some E
  | m :: r, E => (spec_liMake.f x m.f0 m.f1).bind fun y => if inN y (Bfs.nodes E) = true then visitS i d x r E else if E.length < 1000000 ∧ d < 1000000 then visitS i d x r (E ++ [⟨y, (i : Int), m, d + 1⟩]) else none
def reachS (M : ByteArray → Option (List S83)) : Nat → Nat → List PEnt → Option (List PEnt)
  | 0, _, _ => none
  | k + 1, i, E => match E[i]? with
    | none => some E
    | some e => (M e.node).bind fun ms => if ms.length ≤ 1000000 then ((visitS i e.dep e.node ms E).bind fun E' => reachS M k (i + 1) E') else none
/-- the lines and the steps, in memory -/
structure Sx (w0 w : World) (o b l : Bool) (bp : Nat) (v0 v1 vf : Value) (N : List ByteArray) (D : List Int) (F : List ByteArray) : Prop where
  B : Below w0.heap.size w0 w
  rule : w.heap[w0.heap.size]? = some (.cells #[.bool o, .bool b, .bool l] 32 (0, 0))
  res : w.heap[w0.heap.size + 1]? = some (.cells #[.slice none 0 0, .slice none 0 0] 72 (0, 0))
  p : w.heap[bp]? = some (.cells #[v0, v1] 72 (0, 0))
  lt : w0.heap.size + 1 < bp
  r0 : Kd.R Kd.string 9 w w0.heap.size T_ v0 N
  r1 : Kd.R (Kd.int .i64) 3 w w0.heap.size T_ v1 D
  rf : Kd.R Kd.string 9 w w0.heap.size T_ vf F
  ne : v0.ownBlock ≠ vf.ownBlock
theorem Sx.up {w0 w w1 : World} {o b l : Bool} {bp : Nat} {v0 v1 vf : Value} {N : List ByteArray} {D : List Int} {F : List ByteArray} (h : Sx w0 w o b l bp v0 v1 vf N D F) (hb : Below w.heap.size w w1) : Sx w0 w1 o b l bp v0 v1 vf N D F :=
  ⟨below_step h.B hb, blk_below h.rule hb, blk_below h.res hb, blk_below h.p hb, h.lt, Kd.R_below h.r0 hb, Kd.R_below h.r1 hb, Kd.R_below h.rf hb, h.ne⟩
theorem Sx.first {w0 w w7 : World} {o b l : Bool} {bp : Nat} {v0 v1 vf u7 : Value} {N N' : List ByteArray} {D : List Int} {F : List ByteArray} (h : Sx w0 w o b l bp v0 v1 vf N D F) (ho : Kd.R Kd.string 9 w7 w0.heap.size T_ u7 N') (hb : Below w0.heap.size w0 w7) (hg : w.grownBy w7 v0.ownBlock) (hat : u7.ownBlock = v0.ownBlock ∨ ∃ b, u7.ownBlock = some b ∧ w.heap.size ≤ b) :
    Sx w0 (w7.setCell ⟨bp, 0, none⟩ u7) o b l bp u7 v1 vf N' D F := by
  have hk : ∀ k, k ≠ bp → (w7.setCell ⟨bp, 0, none⟩ u7).heap[k]? = w7.heap[k]? := fun k hk => Below.heap_setCell _ ⟨bp, 0, none⟩ u7 k hk
  have hlt := h.lt
  have hp := blk_grown h.p hg (Kd.R_ne h.r0 h.p (by decide))
  have hru := blk_grown h.rule hg (Kd.R_ne h.r0 h.rule (by decide))
  have hre := blk_grown h.res hg (Kd.R_ne h.r0 h.res (by decide))
  have h1 : Kd.R (Kd.int .i64) 3 w7 w0.heap.size T_ v1 D := R_grow flat_i h.r1 hg (fun k hk e => by
    obtain ⟨inner, ho'⟩ := Kd.R_own h.r0
    obtain ⟨cells, hc⟩ := own_typed ho' k e.symm
    exact Kd.R_ne h.r1 hc (by decide) (by rw [hk]))
  have hf : Kd.R Kd.string 9 w7 w0.heap.size T_ vf F := R_grow flat_s h.rf hg (fun k hk e => h.ne (by rw [hk, ← e]))
  have ob : ∀ (u : Value), some bp ≠ u.ownBlock → ∀ k, u.ownBlock = some k → k ≠ bp := fun u hu k hk e => hu (by rw [hk, e])
  refine ⟨hb.setCell (p := ⟨bp, 0, none⟩) (by show _ ≤ bp; omega) u7, (hk _ (by omega)).trans hru, (hk _ (by omega)).trans hre, blk_put hp 0 u7 rfl, h.lt, R_stay flat_s ho (fun k hk' => hk k (ob u7 (Kd.R_ne ho hp (by decide)) k hk')), R_stay flat_i h1 (fun k hk' => hk k (ob v1 (Kd.R_ne h1 hp (by decide)) k hk')), R_stay flat_s hf (fun k hk' => hk k (ob vf (Kd.R_ne hf hp (by decide)) k hk')), ?_⟩
  exact fun e => (sep_one (v := vf) (u := v0) (u' := u7) (R_lt h.rf) h.ne.symm hat) e.symm
theorem Sx.second {w0 w w9 : World} {o b l : Bool} {bp : Nat} {v0 v1 vf u9 : Value} {N : List ByteArray} {D D' : List Int} {F : List ByteArray} (h : Sx w0 w o b l bp v0 v1 vf N D F) (ho : Kd.R (Kd.int .i64) 3 w9 w0.heap.size T_ u9 D') (hb : Below w0.heap.size w0 w9) (hg : w.grownBy w9 v1.ownBlock) :
    Sx w0 (w9.setCell ⟨bp, 1, none⟩ u9) o b l bp v0 u9 vf N D' F := by
  have hk : ∀ k, k ≠ bp → (w9.setCell ⟨bp, 1, none⟩ u9).heap[k]? = w9.heap[k]? := fun k hk => Below.heap_setCell _ ⟨bp, 1, none⟩ u9 k hk
  have hlt := h.lt
  have hp := blk_grown h.p hg (Kd.R_ne h.r1 h.p (by decide))
  have hru := blk_grown h.rule hg (Kd.R_ne h.r1 h.rule (by decide))
  have hre := blk_grown h.res hg (Kd.R_ne h.r1 h.res (by decide))
  have ty : ∀ k, some k = v1.ownBlock → ∃ cells, w.heap[k]? = some (.cells cells 3 (0, 0)) := fun k e => by
    obtain ⟨inner, ho'⟩ := Kd.R_own h.r1
    exact own_typed ho' k e.symm
  have h0 : Kd.R Kd.string 9 w9 w0.heap.size T_ v0 N := R_grow flat_s h.r0 hg (fun k hk e => by
    obtain ⟨cells, hc⟩ := ty k e
    exact Kd.R_ne h.r0 hc (by decide) (by rw [hk]))
  have hf : Kd.R Kd.string 9 w9 w0.heap.size T_ vf F := R_grow flat_s h.rf hg (fun k hk e => by
    obtain ⟨cells, hc⟩ := ty k e
    exact Kd.R_ne h.rf hc (by decide) (by rw [hk]))
  have ob : ∀ (u : Value), some bp ≠ u.ownBlock → ∀ k, u.ownBlock = some k → k ≠ bp := fun u hu k hk e => hu (by rw [hk, e])
  exact ⟨hb.setCell (p := ⟨bp, 1, none⟩) (by show _ ≤ bp; omega) u9, (hk _ (by omega)).trans hru, (hk _ (by omega)).trans hre, blk_put hp 1 u9 rfl, h.lt, R_stay flat_s h0 (fun k hk' => hk k (ob v0 (Kd.R_ne h0 hp (by decide)) k hk')), R_stay flat_i ho (fun k hk' => hk k (ob u9 (Kd.R_ne ho hp (by decide)) k hk')), R_stay flat_s hf (fun k hk' => hk k (ob vf (Kd.R_ne hf hp (by decide)) k hk')), h.ne⟩
theorem reAddW.same (A : Option Addr) (c : Nat) (l : List ByteArray) (y : ByteArray) (w : World) (hl : l.length ≤ 1000000) (hc : l.length ≤ c) (hs : Srt l) (hr : Kd.C Kd.string w A l.length l) (hy : y ∈ l) :
    Calls Tryd.prog 91 #[.slice A l.length c, .string y] w fun e w' => e = .returned (.slice A l.length c) ∧ Below w.heap.size w w' :=
  (reAddW.walk A c l y w hl hc hs hr).mono fun e w' h => ⟨by
    rcases h.1 with h1 | h1
    · exact h1.2
    · exact absurd hy h1.1, h.2⟩
theorem reAddW.new (A : Option Addr) (c : Nat) (l : List ByteArray) (y : ByteArray) (w : World) (hl : l.length ≤ 1000000) (hc : l.length ≤ c) (hs : Srt l) (hr : Kd.C Kd.string w A l.length l) (hy : y ∉ l) :
    Calls Tryd.prog 91 #[.slice A l.length c, .string y] w fun e w' => (∃ v r, e = .returned v ∧ Kd.R Kd.string 9 w' w.heap.size (fun _ => True) v r ∧ r.length = l.length + 1 ∧ Srt r ∧ ∀ x, x ∈ r ↔ x = y ∨ x ∈ l) ∧ Below w.heap.size w w' :=
  (reAddW.walk A c l y w hl hc hs hr).mono fun e w' h => ⟨by
    rcases h.1 with h1 | h1
    · exact absurd h1.1 hy
    · exact h1.2, h.2⟩
theorem R_past {α β : Type} {d : Kd α} {d' : Kd β} {e e' base base' : Nat} {ok' : Nat → Prop} {w w1 : World} {v v' : Value} {xs : List α} {ys : List β} (hd : ∀ {ok1 ok2 : Nat → Prop} {x : α} {cs : List Value}, d.M w base ok1 x cs → d.M w base ok2 x cs) (h : d.R e w base T_ v xs) (h' : d'.R e' w base' ok' v' ys) (hne : e ≠ e') (hg : w.grownBy w1 v'.ownBlock) : d.R e w1 base T_ v xs :=
  R_grow hd h hg (fun k hk e => by
    obtain ⟨inner, ho⟩ := Kd.R_own h'
    obtain ⟨cells, hc⟩ := own_typed ho k e.symm
    exact Kd.R_ne h hc hne (by rw [hk]))
theorem R_off {α : Type} {d : Kd α} {e base g t j : Nat} {w : World} {v u : Value} {xs : List α} {cs : Array Value} (hd : ∀ {ok1 ok2 : Nat → Prop} {x : α} {cs : List Value}, d.M w base ok1 x cs → d.M w base ok2 x cs) (h : d.R e w base T_ v xs) (hb : w.heap[g]? = some (.cells cs t (0, 0))) (hne : e ≠ t) : d.R e (w.setCell ⟨g, j, none⟩ u) base T_ v xs :=
  R_stay hd h (fun k hk => Below.heap_setCell _ ⟨g, j, none⟩ u k (fun e => Kd.R_ne h hb hne (by rw [hk, e])))
set_option maxHeartbeats 4000000 in
set_option maxRecDepth 1000000 in
theorem spec_ruReach.walk (KM K : Nat) (a : ByteArray) (o b l : Bool) (EF : List PEnt) (w : World) (h : reachS (fun s => spec_ruMoves.f KM s o b l) K 0 [⟨a, -1, ⟨0, 0⟩, 0⟩] = some EF) :
    Calls Tryd.prog 56 #[.string a, .agg #[.bool o, .bool b, .bool l]] w fun e w' => (∃ v0 v1, e = .returned (.agg #[v0, v1]) ∧ Kd.R Kd.string 9 w' w.heap.size T_ v0 (Bfs.nodes EF) ∧ Kd.R (Kd.int .i64) 3 w' w.heap.size T_ v1 (EF.map fun e => (e.dep : Int)) ∧ EF.length ≤ 1000000 ∧ (Bfs.nodes EF).Nodup) ∧ Below w.heap.size w w' := by
  have HH := Lib.hid h
  clear h
  go_enter Tryd.func56, Tryd.ntmps56
  go_wp2_with fail
  obtain ⟨W2, hW2⟩ : ∃ W2, ((((((w.alloc (.cells #[.bool o, .bool b, .bool l] 32)).alloc (.cells #[.slice none 0 0, .slice none 0 0] 72)).alloc (.cells #[.string a] 9)).alloc (.cells #[.int .i64 0] 3)).alloc (.cells #[.slice (some ⟨w.heap.size + 1 + 1, 0, none⟩) 1 1, .slice (some ⟨w.heap.size + 1 + 1 + 1, 0, none⟩) 1 1] 72)).alloc (.cells #[.string a] 9)) = W2 := ⟨_, rfl⟩
  have z1 : (w.alloc (.cells #[.bool o, .bool b, .bool l] 32)).heap.size = w.heap.size + 1 := by simp
  have z2 : ((w.alloc (.cells #[.bool o, .bool b, .bool l] 32)).alloc (.cells #[.slice none 0 0, .slice none 0 0] 72)).heap.size = w.heap.size + 1 + 1 := by simp
  have z3 : (((w.alloc (.cells #[.bool o, .bool b, .bool l] 32)).alloc (.cells #[.slice none 0 0, .slice none 0 0] 72)).alloc (.cells #[.string a] 9)).heap.size = w.heap.size + 1 + 1 + 1 := by simp
  have z4 : ((((w.alloc (.cells #[.bool o, .bool b, .bool l] 32)).alloc (.cells #[.slice none 0 0, .slice none 0 0] 72)).alloc (.cells #[.string a] 9)).alloc (.cells #[.int .i64 0] 3)).heap.size = w.heap.size + 1 + 1 + 1 + 1 := by simp
  have z5 : (((((w.alloc (.cells #[.bool o, .bool b, .bool l] 32)).alloc (.cells #[.slice none 0 0, .slice none 0 0] 72)).alloc (.cells #[.string a] 9)).alloc (.cells #[.int .i64 0] 3)).alloc (.cells #[.slice (some ⟨w.heap.size + 1 + 1, 0, none⟩) 1 1, .slice (some ⟨w.heap.size + 1 + 1 + 1, 0, none⟩) 1 1] 72)).heap.size = w.heap.size + 1 + 1 + 1 + 1 + 1 := by simp
  have q0 : W2.heap[w.heap.size]? = some (.cells #[.bool o, .bool b, .bool l] 32) := hW2 ▸ blk_alloc (blk_alloc (blk_alloc (blk_alloc (blk_alloc (blk_new w _) _) _) _) _) _
  have q1 : W2.heap[w.heap.size + 1]? = some (.cells #[.slice none 0 0, .slice none 0 0] 72) := hW2 ▸ blk_alloc (blk_alloc (blk_alloc (blk_alloc (z1 ▸ blk_new _ _) _) _) _) _
  have q2 : W2.heap[w.heap.size + 1 + 1]? = some (.cells #[.string a] 9) := hW2 ▸ blk_alloc (blk_alloc (blk_alloc (z2 ▸ blk_new _ _) _) _) _
  have q3 : W2.heap[w.heap.size + 1 + 1 + 1]? = some (.cells #[.int .i64 0] 3) := hW2 ▸ blk_alloc (blk_alloc (z3 ▸ blk_new _ _) _) _
  have q4 : W2.heap[w.heap.size + 1 + 1 + 1 + 1]? = some (.cells #[.slice (some ⟨w.heap.size + 1 + 1, 0, none⟩) 1 1, .slice (some ⟨w.heap.size + 1 + 1 + 1, 0, none⟩) 1 1] 72) := hW2 ▸ blk_alloc (z4 ▸ blk_new _ _) _
  have q5 : W2.heap[w.heap.size + 1 + 1 + 1 + 1 + 1]? = some (.cells #[.string a] 9) := hW2 ▸ (z5 ▸ blk_new _ _)
  have hb2 : Below w.heap.size w W2 := hW2 ▸ (below_alloc (below_alloc (below_alloc (below_alloc (below_alloc (below_alloc (Below.refl _ _) _) _) _) _) _) _)
  have hP2 : Sx w W2 o b l (w.heap.size + 1 + 1 + 1 + 1) (.slice (some ⟨w.heap.size + 1 + 1, 0, none⟩) 1 1) (.slice (some ⟨w.heap.size + 1 + 1 + 1, 0, none⟩) 1 1) (.slice (some ⟨w.heap.size + 1 + 1 + 1 + 1 + 1, 0, none⟩) 1 1) [a] [0] [a] :=
    ⟨hb2, q0, q1, q4, by omega, R_one Kd.string q2 (by omega) (fun _ => rfl), R_one (Kd.int .i64) q3 (by omega) (fun _ => rfl), R_one Kd.string q5 (by omega) (fun _ => rfl), by simp [Value.ownBlock]⟩
  have hE2 : Fs [(⟨a, -1, ⟨0, 0⟩, 0⟩ : PEnt)] [a] := ⟨List.pairwise_singleton _ _, fun x => by simp [Bfs.nodes], rfl, by simp, by simp [Bfs.nodes]⟩
  rw [hW2]
  clear hW2 z1 z2 z3 z4 z5 q0 q1 q2 q3 q4 q5 hb2
  generalize w.heap.size + 1 + 1 + 1 + 1 = bp at *
  generalize Value.slice (some ⟨w.heap.size + 1 + 1, 0, none⟩) 1 1 = v0 at *
  generalize Value.slice (some ⟨w.heap.size + 1 + 1 + 1, 0, none⟩) 1 1 = v1 at *
  go_loopg [6, 7] K (fun kq x6 x7 wr => ∃ (i : Nat) (u0 u1 uf : Value) (E : List PEnt) (F : List ByteArray), x6 = uf ∧ x7 = .int .i64 (i : Int) ∧ Aside0 (Sx w wr o b l bp u0 u1 uf (Bfs.nodes E) (E.map fun e => (e.dep : Int)) F) ∧ Aside0 (Fs E F) ∧ Hid (reachS (fun s => spec_ruMoves.f KM s o b l) kq i E = some EF) ∧ i ≤ E.length ∧ 0 < E.length)
  case atStart => exact ⟨0, v0, v1, _, [⟨a, -1, ⟨0, 0⟩, 0⟩], [a], rfl, rfl, Aside0.mk hP2, Aside0.mk hE2, HH, Nat.zero_le _, Nat.zero_lt_one⟩
  case round =>
    clear hP2 hE2 HH W2
    obtain ⟨i, u0, u1, uf, E, F, rfl, rfl, HP, HE, HO, hi, hE0⟩ := hrel
    have ho := HO.out
    have hP := HP.out
    obtain ⟨g0, c0, hu0⟩ := R_form hP.r0 (by rw [nodes_len]; exact hE0)
    rw [nodes_len] at hu0
    subst hu0
    have hc0 : wr.cell? ⟨bp, 0, none⟩ = some (.slice (some ⟨g0, 0, none⟩) E.length c0) := (blk_cell hP.p 0).trans rfl
    have hpi : (0 : Int) ≤ (i : Int) := Int.natCast_nonneg _
    cases gk with
    | zero => cases ho
    | succ g' =>
      simp only [reachS] at ho
      by_cases hlt : i < E.length
      · have hdec : decide ((i : Int) < (E.length : Int)) = true := decide_eq_true (by omega)
        obtain ⟨e, he⟩ : ∃ e, E[i]? = some e := ⟨_, List.getElem?_eq_getElem hlt⟩
        rw [he] at ho
        simp only at ho
        obtain ⟨ms, hms, ho⟩ := Option.bind_eq_some_iff.mp ho
        by_cases hml : ms.length ≤ 1000000
        case neg => rw [if_neg hml] at ho; cases ho
        rw [if_pos hml] at ho
        obtain ⟨E2, hv, ho⟩ := Option.bind_eq_some_iff.mp ho
        have hcl := (Kd.R_celln ByteArray.empty (by rw [← nodes_len] at hP; exact hP.r0) (i : Int) hpi (by rw [nodes_len]; omega)).1
        rw [Int.toNat_natCast, nodes_rd he] at hcl
        have HV := Lib.hid hv
        have HP1 := Lib.hid ho
        clear hv ho HO
        go_wp2_with fail
        have hb4 : Below wr.heap.size wr wr.drew := below_drew1 (Below.refl _ _)
        have hP4 := hP.up hb4
        have hcl4 := (hb4.cell (World.block_lt_of_cell? wr _ hcl)).trans hcl
        clear hb4 hcl hP HP hc0
        refine start_ (n := 9) (S := fun w' => w'.cell? ⟨bp, 0, none⟩ = some (.slice (some ⟨g0, 0, none⟩) E.length c0) ∧ w'.cell? ⟨g0, i, none⟩ = some (.string e.node) ∧ w'.cell? ⟨w.heap.size, 0, none⟩ = some (.bool o) ∧ w'.cell? ⟨w.heap.size, 1, none⟩ = some (.bool b) ∧ w'.cell? ⟨w.heap.size, 2, none⟩ = some (.bool l)) (ds := []) #[false, false, false, false, false, false, false, false, false] (by kernel_rfl) rfl rfl ⟨(blk_cell hP4.p 0).trans rfl, hcl4, (blk_cell hP4.rule 0).trans rfl, (blk_cell hP4.rule 1).trans rfl, (blk_cell hP4.rule 2).trans rfl⟩ (fun hHeld => ?_)
        generalize wr.drew = W4 at *
        refine pure_ (i := 0) (N := some 25) (v := ?_) (a' := ?_) #[true, false, false, false, false, false, false, false, false] rfl rfl (by kernel_rfl) (fun _ _ _ h => h) (Or.inl ⟨by rfl, ?_⟩) ?_ ?_
        rotate_left
        · intro w'
          go_simp
          with_reducible rfl
        rotate_left
        · simp only [Act.put, List.setIfInBounds_toArray, List.set_cons_zero, List.set_cons_succ, i64_w, i32_w]
          rfl
        refine take_ (i := 1) (N := some 26) (v := ?_) (a' := ?_) #[true, true, false, false, false, false, false, false, false] rfl rfl (by kernel_rfl) (fun _ _ _ h => h) (Or.inl ⟨by rfl, ?_⟩) hHeld ?_ ?_
        rotate_left
        · rintro w' ⟨s0, s1, s2, s3, s4⟩
          go_simp
          with_reducible rfl
        rotate_left
        · simp only [Act.put, List.setIfInBounds_toArray, List.set_cons_zero, List.set_cons_succ, i64_w, i32_w]
          rfl
        refine pure_ (i := 2) (N := some 27) (v := ?_) (a' := ?_) #[true, true, true, false, false, false, false, false, false] rfl rfl (by kernel_rfl) (fun _ _ _ h => h) (Or.inl ⟨by rfl, ?_⟩) ?_ ?_
        rotate_left
        · intro w'
          go_simp
          with_reducible rfl
        rotate_left
        · simp only [Act.put, List.setIfInBounds_toArray, List.set_cons_zero, List.set_cons_succ, i64_w, i32_w]
          rfl
        refine pure_ (i := 3) (N := some 28) (v := ?_) (a' := ?_) #[true, true, true, true, false, false, false, false, false] rfl rfl (by kernel_rfl) (fun _ _ _ h => h) (Or.inl ⟨by rfl, ?_⟩) ?_ ?_
        rotate_left
        · intro w'
          go_simp
          with_reducible rfl
        rotate_left
        · simp only [Act.put, List.setIfInBounds_toArray, List.set_cons_zero, List.set_cons_succ, i64_w, i32_w]
          rfl
        refine take_ (i := 4) (N := some 29) (v := ?_) (a' := ?_) #[true, true, true, true, true, false, false, false, false] rfl rfl (by kernel_rfl) (fun _ _ _ h => h) (Or.inl ⟨by rfl, ?_⟩) hHeld ?_ ?_
        rotate_left
        · rintro w' ⟨s0, s1, s2, s3, s4⟩
          go_simp
          with_reducible rfl
        rotate_left
        · simp only [Act.put, List.setIfInBounds_toArray, List.set_cons_zero, List.set_cons_succ, i64_w, i32_w]
          rfl
        refine take_ (i := 5) (N := some 30) (v := ?_) (a' := ?_) #[true, true, true, true, true, true, false, false, false] rfl rfl (by kernel_rfl) (fun _ _ _ h => h) (Or.inl ⟨by rfl, ?_⟩) hHeld ?_ ?_
        rotate_left
        · rintro w' ⟨s0, s1, s2, s3, s4⟩
          go_simp
          with_reducible rfl
        rotate_left
        · simp only [Act.put, List.setIfInBounds_toArray, List.set_cons_zero, List.set_cons_succ, i64_w, i32_w]
          rfl
        refine pure_ (i := 8) (N := some 33) (v := ?_) (a' := ?_) #[true, true, true, true, true, true, false, false, true] rfl rfl (by kernel_rfl) (fun _ _ _ h => h) (Or.inl ⟨by rfl, ?_⟩) ?_ ?_
        rotate_left
        · intro w'
          go_simp
          with_reducible rfl
        rotate_left
        · simp only [Act.put, List.setIfInBounds_toArray, List.set_cons_zero, List.set_cons_succ, i64_w, i32_w]
          rfl
        refine one_ (i := 6) (N := some 31) #[true, true, true, true, true, true, true, false, true] rfl rfl (by kernel_rfl) (by decide) (fun K hK => ?_)
        refine goes_ Tryd.func73 (by kernel_rfl) rfl #[.string e.node, .agg #[.bool o, .bool b, .bool l]] (by rfl) rfl rfl (by (try simp only [List.map_toArray, List.map_cons, List.map_nil]); first | done | rfl) ?_
        with_reducible refine (spec_ruMoves.calls KM e.node o b l ms _ hms).mono ?_
        rintro e1 W5 ⟨vms, rfl, hRm, hb5⟩
        obtain ⟨Am, cm, rfl⟩ := Kd.R_slice hRm
        refine ⟨_, rfl, ?_⟩
        have hP5 := hP4.up hb5
        have hcl5 := (hb5.cell (World.block_lt_of_cell? W4 _ hcl4)).trans hcl4
        have hR5 : Kd.R k83 83 W5 w.heap.size T_ (.slice Am ms.length cm) ms := Kd.R_mono (Kd.R_lower hRm hP4.B.size) (fun _ _ => trivial)
        clear hb5 hRm hcl4 hHeld hms
        refine hK.out _ _ ⟨(blk_cell hP5.p 0).trans rfl, hcl5, (blk_cell hP5.rule 0).trans rfl, (blk_cell hP5.rule 1).trans rfl, (blk_cell hP5.rule 2).trans rfl⟩ (fun hHeld => ?_)
        clear hK K
        refine norm_ (a' := ?_) ?_ ?_
        rotate_left
        · show Act.put _ (some 31) _ = _
          simp only [Act.put, List.setIfInBounds_toArray, List.set_cons_zero, List.set_cons_succ, i64_w, i32_w]
          rfl
        refine pure_ (i := 7) (N := some 32) (v := ?_) (a' := ?_) #[true, true, true, true, true, true, true, true, true] rfl rfl (by kernel_rfl) (fun _ _ _ h => h) (Or.inl ⟨by rfl, ?_⟩) ?_ ?_
        rotate_left
        · intro w'
          go_simp
          with_reducible rfl
        rotate_left
        · simp only [Act.put, List.setIfInBounds_toArray, List.set_cons_zero, List.set_cons_succ, i64_w, i32_w]
          rfl
        refine done_ (by kernel_rfl) ?_
        clear hHeld hcl5 hP4
        go_wp2_with fail
        go_loopw [6, 33] (fun x6 x33 wq => ∃ (j : Nat) (q0 q1 qf : Value) (E1 : List PEnt) (F1 : List ByteArray), x6 = qf ∧ x33 = .int .i64 (j : Int) ∧ j ≤ ms.length ∧ Aside0 (Sx w wq o b l bp q0 q1 qf (Bfs.nodes E1) (E1.map fun e => (e.dep : Int)) F1) ∧ Aside0 (Fs E1 F1) ∧ Hid (visitS i e.dep e.node (ms.drop j) E1 = some E2) ∧ Hid (E1[i]? = some e) ∧
            Aside0 (Kd.R k83 83 wq w.heap.size T_ (.slice Am ms.length cm) ms)) (fun _ x33 _ => ms.length - (RowKit.intOf x33).toNat)
        case atStart => exact ⟨0, _, u1, _, E, F, rfl, rfl, Nat.zero_le _, Aside0.mk hP5, HE, HV, Lib.hid he, Aside0.mk hR5⟩
        case round =>
          clear hP5 HE HV he hR5
          obtain ⟨j, q0, q1, qf, E1, F1, rfl, rfl, hj, HQ, HE, HV, hei, HR⟩ := hrel
          have hQ := HQ.out
          have hv := HV.out
          have hie := (List.getElem?_eq_some_iff.1 hei.out).1
          by_cases hjl : j < ms.length
          · have hdec : decide ((j : Int) < (ms.length : Int)) = true := decide_eq_true (by omega)
            obtain ⟨gm, cm', hvm⟩ := R_form HR.out (by omega)
            injection hvm with hA _ hcm
            subst hA
            subst hcm
            obtain ⟨ad, ead, hx0, hx1⟩ := at_T83 (Kd.R_reads' HR.out).2.2 (j : Int) (by omega) (by omega)
            have hd : ms.drop j = rd_T83 ms (j : Int) :: ms.drop (j + 1) := by
              rw [List.drop_eq_getElem_cons hjl]
              unfold rd_T83
              rw [Int.toNat_natCast, List.getD_eq_getElem?_getD, List.getElem?_eq_getElem hjl]
              rfl
            rw [hd] at hv
            rw [Int.toNat_natCast] at hx0 hx1
            clear hd HV
            cases ead
            generalize rd_T83 ms (j : Int) = m at *
            obtain ⟨f, t⟩ := m
            replace hx0 : wr.cell? ⟨gm, j * 2, none⟩ = some (.int .i64 f) := by rw [Addr.add_lit, Nat.zero_add] at hx0; exact hx0
            replace hx1 : wr.cell? ⟨gm, j * 2 + 1, none⟩ = some (.int .i64 t) := by rw [Addr.add_lit, Nat.zero_add] at hx1; exact hx1
            simp only [visitS] at hv
            obtain ⟨y, hy, hv⟩ := Option.bind_eq_some_iff.mp hv
            have hp0 : (0 : Int) ≤ (j : Int) := Int.natCast_nonneg _
            obtain ⟨g0', c0', hu0⟩ := R_form hQ.r0 (by rw [nodes_len]; omega)
            rw [nodes_len] at hu0
            subst hu0
            have hcl := (Kd.R_celln ByteArray.empty (by rw [← nodes_len] at hQ; exact hQ.r0) (i : Int) hpi (by rw [nodes_len]; omega)).1
            rw [Int.toNat_natCast, nodes_rd hei.out] at hcl
            have hie0 : decide ((i : Int) < (E1.length : Int)) = true := decide_eq_true (by omega)
            go_wp2_with fail
            have hb4 : Below wr.heap.size wr (wr.alloc (.cells #[.int .i64 f, .int .i64 t] 83 (0, 0))).drew := below_drew1 (below_alloc (Below.refl _ _) _)
            have hbx : (wr.alloc (.cells #[.int .i64 f, .int .i64 t] 83 (0, 0))).drew.heap[wr.heap.size]? = some (.cells #[.int .i64 f, .int .i64 t] 83 (0, 0)) := blk_drew (blk_new wr _)
            have hQ4 := hQ.up hb4
            have hR4 := Kd.R_below HR.out hb4
            have hcl4 := (hb4.cell (World.block_lt_of_cell? wr _ hcl)).trans hcl
            clear hx0 hx1 HR hb4 hcl
            refine start_ (n := 8) (S := fun w' => w'.cell? ⟨bp, 0, none⟩ = some (.slice (some ⟨g0', 0, none⟩) E1.length c0') ∧ w'.cell? ⟨g0', i, none⟩ = some (.string e.node) ∧ w'.cell? ⟨wr.heap.size, 0, none⟩ = some (.int .i64 f) ∧ w'.cell? ⟨wr.heap.size, 1, none⟩ = some (.int .i64 t)) (ds := []) #[false, false, false, false, false, false, false, false] (by kernel_rfl) rfl rfl ⟨(blk_cell hQ4.p 0).trans rfl, hcl4, (blk_cell hbx 0).trans rfl, (blk_cell hbx 1).trans rfl⟩ (fun hHeld => ?_)
            generalize (wr.alloc (.cells #[.int .i64 f, .int .i64 t] 83 (0, 0))).drew = W4 at *
            refine pure_ (i := 0) (N := some 37) (v := ?_) (a' := ?_) #[true, false, false, false, false, false, false, false] rfl rfl (by kernel_rfl) (fun _ _ _ h => h) (Or.inl ⟨by rfl, ?_⟩) ?_ ?_
            rotate_left
            · intro w'
              go_simp
              with_reducible rfl
            rotate_left
            · simp only [Act.put, List.setIfInBounds_toArray, List.set_cons_zero, List.set_cons_succ, i64_w, i32_w]
              rfl
            refine take_ (i := 1) (N := some 38) (v := ?_) (a' := ?_) #[true, true, false, false, false, false, false, false] rfl rfl (by kernel_rfl) (fun _ _ _ h => h) (Or.inl ⟨by rfl, ?_⟩) hHeld ?_ ?_
            rotate_left
            · rintro w' ⟨s0, s1, s2, s3⟩
              go_simp
              with_reducible rfl
            rotate_left
            · simp only [Act.put, List.setIfInBounds_toArray, List.set_cons_zero, List.set_cons_succ, i64_w, i32_w]
              rfl
            refine pure_ (i := 2) (N := some 39) (v := ?_) (a' := ?_) #[true, true, true, false, false, false, false, false] rfl rfl (by kernel_rfl) (fun _ _ _ h => h) (Or.inl ⟨by rfl, ?_⟩) ?_ ?_
            rotate_left
            · intro w'
              go_simp
              with_reducible rfl
            rotate_left
            · simp only [Act.put, List.setIfInBounds_toArray, List.set_cons_zero, List.set_cons_succ, i64_w, i32_w]
              rfl
            refine pure_ (i := 3) (N := some 40) (v := ?_) (a' := ?_) #[true, true, true, true, false, false, false, false] rfl rfl (by kernel_rfl) (fun _ _ _ h => h) (Or.inl ⟨by rfl, ?_⟩) ?_ ?_
            rotate_left
            · intro w'
              go_simp
              with_reducible rfl
            rotate_left
            · simp only [Act.put, List.setIfInBounds_toArray, List.set_cons_zero, List.set_cons_succ, i64_w, i32_w]
              rfl
            refine take_ (i := 4) (N := some 41) (v := ?_) (a' := ?_) #[true, true, true, true, true, false, false, false] rfl rfl (by kernel_rfl) (fun _ _ _ h => h) (Or.inl ⟨by rfl, ?_⟩) hHeld ?_ ?_
            rotate_left
            · rintro w' ⟨s0, s1, s2, s3⟩
              go_simp
              with_reducible rfl
            rotate_left
            · simp only [Act.put, List.setIfInBounds_toArray, List.set_cons_zero, List.set_cons_succ, i64_w, i32_w]
              rfl
            refine take_ (i := 5) (N := some 42) (v := ?_) (a' := ?_) #[true, true, true, true, true, true, false, false] rfl rfl (by kernel_rfl) (fun _ _ _ h => h) (Or.inl ⟨by rfl, ?_⟩) hHeld ?_ ?_
            rotate_left
            · rintro w' ⟨s0, s1, s2, s3⟩
              go_simp
              with_reducible rfl
            rotate_left
            · simp only [Act.put, List.setIfInBounds_toArray, List.set_cons_zero, List.set_cons_succ, i64_w, i32_w]
              rfl
            refine one_ (i := 6) (N := some 43) #[true, true, true, true, true, true, true, false] rfl rfl (by kernel_rfl) (by decide) (fun K hK => ?_)
            refine goes_ Tryd.func74 (by kernel_rfl) rfl #[.string e.node, .agg #[.int .i64 f, .int .i64 t]] (by rfl) rfl rfl (by (try simp only [List.map_toArray, List.map_cons, List.map_nil]); first | done | rfl) ?_
            with_reducible refine (spec_liMake.calls e.node f t y _ hy).mono ?_
            rintro e1 W5 ⟨rfl, hb5⟩
            refine ⟨_, rfl, ?_⟩
            have hQ5 := hQ4.up hb5
            have hR5 := Kd.R_below hR4 hb5
            have hbx5 := blk_below hbx hb5
            have hcl5 := (hb5.cell (World.block_lt_of_cell? W4 _ hcl4)).trans hcl4
            clear hQ4 hR4 hbx hcl4 hb5 hHeld hQ HQ
            refine hK.out _ _ ⟨(blk_cell hQ5.p 0).trans rfl, hcl5, (blk_cell hbx5 0).trans rfl, (blk_cell hbx5 1).trans rfl⟩ (fun hHeld => ?_)
            clear hK K
            refine norm_ (a' := ?_) ?_ ?_
            rotate_left
            · show Act.put _ (some 43) _ = _
              simp only [Act.put, List.setIfInBounds_toArray, List.set_cons_zero, List.set_cons_succ, i64_w, i32_w]
              rfl
            refine pure_ (i := 7) (N := some 10) (v := ?_) (a' := ?_) #[true, true, true, true, true, true, true, true] rfl rfl (by kernel_rfl) (fun _ _ _ h => h) (Or.inl ⟨by rfl, ?_⟩) ?_ ?_
            rotate_left
            · intro w'
              go_simp
              with_reducible rfl
            rotate_left
            · simp only [Act.put, List.setIfInBounds_toArray, List.set_cons_zero, List.set_cons_succ, i64_w, i32_w]
              rfl
            refine done_ (by kernel_rfl) ?_
            clear hcl5 hbx5 hHeld
            obtain ⟨Af, cf, hzf⟩ := Kd.R_slice hQ5.rf
            subst hzf
            have hfr := Kd.R_reads' hQ5.rf
            by_cases hin : y ∈ Bfs.nodes E1
            · rw [if_pos (inN_iff.2 hin)] at hv
              have HV := Lib.hid hv
              have HA := Aside0.mk (fun W hb => reAddW.same Af cf F1 y W (by have := HE.out.len; have := HE.out.most; omega) hfr.2.1 HE.out.srt (Kd.C_below hfr.2.2 hb) ((HE.out.mem y).2 hin))
              clear hv hfr hin hy
              go_wp2_with (first | (go_at_call 91; refine (HA.out _ (Below.refl _ _)).mono ?_; rintro e1 W6 ⟨rfl, hb6⟩; have hQ6 := hQ5.up hb6; have hR6 := Kd.R_below hR5 hb6))
              exact ⟨⟨j + 1, _, q1, _, E1, F1, rfl, rfl, by omega, Aside0.mk hQ6, HE, HV, hei, Aside0.mk hR6⟩, by simp [RowKit.intOf]; omega⟩
            · rw [if_neg (fun h => hin (inN_iff.1 h))] at hv
              by_cases hb : E1.length < 1000000 ∧ e.dep < 1000000
              case neg => rw [if_neg hb] at hv; cases hv
              rw [if_pos hb] at hv
              have HV := Lib.hid hv
              have HA := Aside0.mk (fun W hb => reAddW.new Af cf F1 y W (by have := HE.out.len; have := HE.out.most; omega) hfr.2.1 HE.out.srt (Kd.C_below hfr.2.2 hb) (fun h => hin ((HE.out.mem y).1 h)))
              clear hv hfr hy
              have hwd : wrap64 ((e.dep : Int) + 1) = (e.dep : Int) + 1 := by unfold wrap64; omega
              go_wp2_with (first
                | (go_at_call 91; refine (HA.out _ (Below.refl _ _)).mono ?_; rintro e1 W6 ⟨⟨vr, r, rfl, hRr, hlen, hsr, hmem⟩, hb6⟩; obtain ⟨Ar, cr, hzr⟩ := Kd.R_slice hRr; subst hzr; have hQ6 := hQ5.up hb6; have hR6 := Kd.R_below hR5 hb6; have hbe : ((r.length : Int) == (F1.length : Int)) = false := (by rw [hlen, beq_eq_false_iff_ne]; omega); have hc60 : W6.cell? ⟨bp, 0, none⟩ = some (.slice (some ⟨g0', 0, none⟩) E1.length c0') := (blk_cell hQ6.p 0).trans rfl)
                | ((with_reducible refine gate_builtin (b := .append) (xs := #[.tmp 54, .tmp 56]) rfl ?_); at_builtin; refine Kd.R_append Kd.string (w0 := w) w.heap.size rfl (.tmp 54) (.tmp 56) 22 9 (.string ⟨#[]⟩) 16 rfl Tryd.underlying22 ra_info9 rfl (by decide) (by omega) (.slice (some ⟨g0', 0, none⟩) E1.length c0') (Bfs.nodes E1) y [.string y] T_ (fun _ => False) rfl rfl (by exact rfl) (fun _ hk => hk.elim) (fun _ _ => trivial) hQ6.r0 hQ6.B hQ6.B.size (by rw [nodes_len]; omega) ?_; intro u7 w7 ho7 hb7 hg7 hat7; obtain ⟨A7, n7, k7, z7⟩ := R_any ho7; subst z7; have hp7 := blk_grown hQ6.p hg7 (Kd.R_ne hQ6.r0 hQ6.p (by decide)); have hc70 : w7.cell? ⟨bp, 0, none⟩ = some (.slice (some ⟨g0', 0, none⟩) E1.length c0') := (blk_cell hp7 0).trans rfl; have hf70 := blk_frozen hp7 0))
              have hQ6' : Sx w W6 o b l bp (.slice (some ⟨g0', 0, none⟩) E1.length c0') q1 (.slice Ar r.length cr) (Bfs.nodes E1) (E1.map fun e => (e.dep : Int)) r := ⟨hQ6.B, hQ6.rule, hQ6.res, hQ6.p, hQ6.lt, hQ6.r0, hQ6.r1, Kd.R_mono (Kd.R_lower hRr hQ5.B.size) (fun _ _ => trivial), fun e => by
                have h1 := Kd.R_base hRr g0' e.symm
                have h2 := R_lt hQ5.r0 g0' rfl
                omega⟩
              have hR7 : Kd.R k83 83 (w7.setCell ⟨bp, 0, none⟩ (.slice A7 n7 k7)) w.heap.size T_ (.slice (some ⟨gm, 0, none⟩) ms.length cm) ms := R_off flat_m (R_past flat_m hR6 hQ6.r0 (by decide) hg7) hp7 (by decide)
              have hQ7 := hQ6'.first ho7 hb7 hg7 hat7
              have hb8 := below_drew1 (Below.refl (w7.setCell ⟨bp, 0, none⟩ (.slice A7 n7 k7)).heap.size (w7.setCell ⟨bp, 0, none⟩ (.slice A7 n7 k7)))
              have hQ8 := hQ7.up hb8
              have hR8 := Kd.R_below hR7 hb8
              have HFs := Aside0.mk (HE.out.snoc (i := (i : Int)) (m := (⟨f, t⟩ : S83)) (d := e.dep + 1) hb.1 hin hlen hsr hmem)
              rw [hlen] at hQ8
              clear hQ7 hR7 hQ6' hQ6 hR6 hQ5 hR5 ho7 hb7 hg7 hat7 hp7 hc70 hf70 hc60 hbe hRr hsr hmem hb8 hin
              obtain ⟨g1, c1, hu1⟩ := R_form hQ8.r1 (by rw [List.length_map]; omega)
              rw [List.length_map] at hu1
              subst hu1
              have hdc := R_icell hQ8.r1 (i : Int) hpi (by omega)
              rw [Int.toNat_natCast, deps_rd hei.out] at hdc
              refine start_ (n := 12) (S := fun w' => w'.cell? ⟨bp, 1, none⟩ = some (.slice (some ⟨g1, 0, none⟩) E1.length c1) ∧ w'.cell? ⟨g1, i, none⟩ = some (.int .i64 (e.dep : Int))) (ds := [9, 11]) #[false, false, false, false, false, false, false, false, false, false, false, false] (by kernel_rfl) rfl rfl ⟨(blk_cell hQ8.p 1).trans rfl, hdc⟩ (fun hHeld => ?_)
              generalize (w7.setCell ⟨bp, 0, none⟩ (.slice A7 n7 k7)).drew = W8 at *
              refine pure_ (i := 0) (N := some 59) (v := ?_) (a' := ?_) #[true, false, false, false, false, false, false, false, false, false, false, false] rfl rfl (by kernel_rfl) (fun _ _ _ h => h) (Or.inl ⟨by rfl, ?_⟩) ?_ ?_
              rotate_left
              · intro w'
                go_simp
                with_reducible rfl
              rotate_left
              · simp only [Act.put, List.setIfInBounds_toArray, List.set_cons_zero, List.set_cons_succ, i64_w, i32_w]
                rfl
              refine take_ (i := 1) (N := some 60) (v := ?_) (a' := ?_) #[true, true, false, false, false, false, false, false, false, false, false, false] rfl rfl (by kernel_rfl) (fun _ _ _ h => h) (Or.inl ⟨by rfl, ?_⟩) hHeld ?_ ?_
              rotate_left
              · rintro w' ⟨s0, s1⟩
                go_simp
                with_reducible rfl
              rotate_left
              · simp only [Act.put, List.setIfInBounds_toArray, List.set_cons_zero, List.set_cons_succ, i64_w, i32_w]
                rfl
              refine pure_ (i := 2) (N := some 61) (v := ?_) (a' := ?_) #[true, true, true, false, false, false, false, false, false, false, false, false] rfl rfl (by kernel_rfl) (fun _ _ _ h => h) (Or.inl ⟨by rfl, ?_⟩) ?_ ?_
              rotate_left
              · intro w'
                go_simp
                with_reducible rfl
              rotate_left
              · simp only [Act.put, List.setIfInBounds_toArray, List.set_cons_zero, List.set_cons_succ, i64_w, i32_w]
                rfl
              refine take_ (i := 3) (N := some 62) (v := ?_) (a' := ?_) #[true, true, true, true, false, false, false, false, false, false, false, false] rfl rfl (by kernel_rfl) (fun _ _ _ h => h) (Or.inl ⟨by rfl, ?_⟩) hHeld ?_ ?_
              rotate_left
              · rintro w' ⟨s0, s1⟩
                go_simp
                with_reducible rfl
              rotate_left
              · simp only [Act.put, List.setIfInBounds_toArray, List.set_cons_zero, List.set_cons_succ, i64_w, i32_w]
                rfl
              refine pure_ (i := 4) (N := some 63) (v := ?_) (a' := ?_) #[true, true, true, true, true, false, false, false, false, false, false, false] rfl rfl (by kernel_rfl) (fun _ _ _ h => h) (Or.inl ⟨by rfl, ?_⟩) ?_ ?_
              rotate_left
              · intro w'
                go_simp
                with_reducible rfl
              rotate_left
              · simp only [Act.put, List.setIfInBounds_toArray, List.set_cons_zero, List.set_cons_succ, i64_w, i32_w]
                rfl
              refine pure_ (i := 5) (N := some 64) (v := ?_) (a' := ?_) #[true, true, true, true, true, true, false, false, false, false, false, false] rfl rfl (by kernel_rfl) (fun _ _ _ h => h) (Or.inl ⟨by rfl, ?_⟩) ?_ ?_
              rotate_left
              · intro w'
                go_simp
                with_reducible rfl
              rotate_left
              · simp only [Act.put, List.setIfInBounds_toArray, List.set_cons_zero, List.set_cons_succ, i64_w, i32_w]
                rfl
              refine take_ (i := 6) (N := some 65) (v := ?_) (a' := ?_) #[true, true, true, true, true, true, true, false, false, false, false, false] rfl rfl (by kernel_rfl) (fun _ _ _ h => h) (Or.inl ⟨by rfl, ?_⟩) hHeld ?_ ?_
              rotate_left
              · rintro w' ⟨s0, s1⟩
                go_simp
                with_reducible rfl
              rotate_left
              · simp only [Act.put, List.setIfInBounds_toArray, List.set_cons_zero, List.set_cons_succ, i64_w, i32_w]
                rfl
              refine pure_ (i := 7) (N := some 66) (v := ?_) (a' := ?_) #[true, true, true, true, true, true, true, true, false, false, false, false] rfl rfl (by kernel_rfl) (fun _ _ _ h => h) (Or.inl ⟨by rfl, ?_⟩) ?_ ?_
              rotate_left
              · intro w'
                go_simp
                with_reducible rfl
              rotate_left
              · simp only [Act.put, List.setIfInBounds_toArray, List.set_cons_zero, List.set_cons_succ, i64_w, i32_w]
                rfl
              refine one_ (i := 8) (N := some 67) #[true, true, true, true, true, true, true, true, true, false, false, false] rfl rfl (by kernel_rfl) (by decide) (fun K hK => ?_)
              refine value_ (by rfl) rfl (v := .slice (some ⟨W8.heap.size, 0, none⟩) 1 1) (w1 := W8.alloc (.cells #[.int .i64 ((e.dep + 1 : Nat) : Int)] 3 (0, 0))) ?_ ?_
              · first | (go_simp; done) | (go_simp; rfl) | (go_simp; rw [hwd]; rfl)
              have hga := World.grownBy_alloc W8 (.cells #[.int .i64 ((e.dep + 1 : Nat) : Int)] 3 (0, 0)) none
              refine hK.out _ _ ⟨cell_grow hga hHeld.1 (by simp), cell_grow hga hHeld.2 (by simp)⟩ (fun hHeld2 => ?_)
              clear hga hHeld
              clear hK K
              refine norm_ (a' := ?_) ?_ ?_
              rotate_left
              · show Act.put _ (some 67) _ = _
                simp only [Act.put, List.setIfInBounds_toArray, List.set_cons_zero, List.set_cons_succ, i64_w, i32_w]
                rfl
              refine last_ (i := 9) (N := some 68) #[true, true, true, true, true, true, true, true, true, true, false, false] rfl rfl (by kernel_rfl) (by decide) (fun K hK => ?_)
              refine Kd.R_append_step (Kd.int .i64) (w0 := w) w.heap.size (by rfl) (.tmp 60) (.tmp 67) 65 3 (.int .i64 0) 8 rfl Tryd.underlying65 (by kernel_rfl) rfl (by decide) (by decide) (.slice (some ⟨g1, 0, none⟩) E1.length c1) (E1.map fun e => (e.dep : Int)) ((e.dep + 1 : Nat) : Int) [.int .i64 ((e.dep + 1 : Nat) : Int)] T_ (fun _ => False) (by rfl) (by rfl) rfl (fun _ h => h.elim) (fun _ _ => trivial) hQ8.r1 hQ8.B hQ8.B.size (by rw [List.length_map]; omega) ?_
              intro u9 w9 ho9 hb9 hg9 hat9
              obtain ⟨A9, n9, k9, z9⟩ := R_any ho9
              subst z9
              have hp9 := blk_grown hQ8.p hg9 (Kd.R_ne hQ8.r1 hQ8.p (by decide))
              have hc91 : w9.cell? ⟨bp, 1, none⟩ = some (.slice (some ⟨g1, 0, none⟩) E1.length c1) := (blk_cell hp9 1).trans rfl
              have hf91 := blk_frozen hp9 1
              refine hK.out _ _ ?_
              clear hK K
              refine norm_ (a' := ?_) ?_ ?_
              rotate_left
              · show Act.put _ (some 68) _ = _
                simp only [Act.put, List.setIfInBounds_toArray, List.set_cons_zero, List.set_cons_succ, i64_w, i32_w]
                rfl
              refine pure_ (i := 10) (N := some 69) (v := ?_) (a' := ?_) #[true, true, true, true, true, true, true, true, true, true, true, false] rfl rfl (by kernel_rfl) (fun _ _ _ h => h) (Or.inl ⟨by rfl, ?_⟩) ?_ ?_
              rotate_left
              · intro w'
                go_simp
                with_reducible rfl
              rotate_left
              · simp only [Act.put, List.setIfInBounds_toArray, List.set_cons_zero, List.set_cons_succ, i64_w, i32_w]
                rfl
              refine last_ (i := 11) (N := none) #[true, true, true, true, true, true, true, true, true, true, true, true] rfl rfl (by kernel_rfl) (by decide) (fun K hK => ?_)
              refine skip_ (w1 := w9.setCell ⟨bp, 1, none⟩ (.slice A9 n9 k9)) (by rfl) rfl ?_ ?_
              · first | (go_simp; done) | (go_simp; rfl)
              refine hK.out _ _ ?_
              clear hK K
              refine done_ (by kernel_rfl) ?_
              have hQ9 := hQ8.second ho9 hb9 hg9
              have hR9 : Kd.R k83 83 (w9.setCell ⟨bp, 1, none⟩ (.slice A9 n9 k9)) w.heap.size T_ (.slice (some ⟨gm, 0, none⟩) ms.length cm) ms := R_off flat_m (R_past flat_m hR8 hQ8.r1 (by decide) hg9) hp9 (by decide)
              rw [show Bfs.nodes E1 ++ [y] = Bfs.nodes (E1 ++ [⟨y, (i : Int), ⟨f, t⟩, e.dep + 1⟩]) by simp [Bfs.nodes], show (E1.map fun e => (e.dep : Int)) ++ [((e.dep + 1 : Nat) : Int)] = (E1 ++ [(⟨y, (i : Int), ⟨f, t⟩, e.dep + 1⟩ : PEnt)]).map fun (e : PEnt) => (e.dep : Int) by simp] at hQ9
              clear hQ8 hR8 ho9 hb9 hg9 hat9 hp9 hc91 hf91 hdc hHeld2 hwd
              generalize w9.setCell ⟨bp, 1, none⟩ (.slice A9 n9 k9) = W9 at *
              go_wp2
              exact ⟨⟨j + 1, _, _, _, _, r, rfl, rfl, by omega, Aside0.mk hQ9, HFs, HV, Lib.hid (Bfs.get_old hei.out), Aside0.mk hR9⟩, by simp [RowKit.intOf]; omega⟩
          · have hdec : decide ((j : Int) < (ms.length : Int)) = false := decide_eq_false (by omega)
            rw [List.drop_of_length_le (by omega)] at hv
            simp only [visitS] at hv
            obtain rfl := Option.some.inj hv
            clear hv HV
            have hlen1 := HE.out.most
            go_wp2
            go_roundg g'
            case measure => omega
            case rel => exact ⟨i + 1, q0, q1, _, E1, F1, rfl, rfl, HQ, HE, HP1, by omega, by omega⟩
      · have hdec : decide ((i : Int) < (E.length : Int)) = false := decide_eq_false (by omega)
        rw [List.getElem?_eq_none (by omega)] at ho
        obtain rfl := Option.some.inj ho
        obtain ⟨A1, n1, k1, z1⟩ := R_any hP.r1
        subst z1
        have hc1 : wr.cell? ⟨bp, 1, none⟩ = some (.slice A1 n1 k1) := (blk_cell hP.p 1).trans rfl
        have hd0 : wr.cell? ⟨w.heap.size + 1, 0, none⟩ = some (.slice none 0 0) := (blk_cell hP.res 0).trans rfl
        have hd1 : wr.cell? ⟨w.heap.size + 1, 1, none⟩ = some (.slice none 0 0) := (blk_cell hP.res 1).trans rfl
        have hf0 := blk_frozen hP.res 0
        have hf1 := blk_frozen hP.res 1
        clear ho HO
        go_wp2
        have y0 : (wr.setCell ⟨w.heap.size + 1, 0, none⟩ (.slice (some ⟨g0, 0, none⟩) E.length c0)).heap[w.heap.size + 1]? = some (.cells #[(.slice (some ⟨g0, 0, none⟩) E.length c0), (.slice none 0 0)] 72 (0, 0)) := blk_put hP.res 0 (.slice (some ⟨g0, 0, none⟩) E.length c0) rfl
        have y1 : ((wr.setCell ⟨w.heap.size + 1, 0, none⟩ (.slice (some ⟨g0, 0, none⟩) E.length c0)).setCell ⟨w.heap.size + 1, 1, none⟩ (.slice A1 n1 k1)).heap[w.heap.size + 1]? = some (.cells #[(.slice (some ⟨g0, 0, none⟩) E.length c0), (.slice A1 n1 k1)] 72 (0, 0)) := blk_put y0 1 (.slice A1 n1 k1) rfl
        refine bodyPost_ret (results_cell_row rfl _ _ (w.heap.size + 1) 72 #[(.slice (some ⟨g0, 0, none⟩) E.length c0), (.slice A1 n1 k1)] (0, 0) _ rfl y1 Tryd.underlying72 rfl (by kernel_rfl)) rfl ?_
        have hB := (hP.B.setCell (p := ⟨w.heap.size + 1, 0, none⟩) (Nat.le_succ _) (.slice (some ⟨g0, 0, none⟩) E.length c0)).setCell (p := ⟨w.heap.size + 1, 1, none⟩) (Nat.le_succ _) (.slice A1 n1 k1)
        exact ⟨⟨_, _, rfl, R_off flat_s (R_off flat_s hP.r0 hP.res (by decide)) y0 (by decide), R_off flat_i (R_off flat_i hP.r1 hP.res (by decide)) y0 (by decide), HE.out.most, HE.out.nd⟩, hB⟩
end
/-- the lines that are reached, with their steps -/
def spec_ruReach.f (a0 : ByteArray) (a1_0 a1_1 a1_2 : Bool) : Option ((List ByteArray) × (List Int)) := (reachS (fun s => spec_ruMoves.f 3000 s a1_0 a1_1 a1_2) 100000 0 [⟨a0, -1, ⟨0, 0⟩, 0⟩]).bind fun E => some (Go.Proofs.YtjgijaocinpkhaaDoor.Bfs.nodes E, E.map fun (e : PEnt) => (e.dep : Int))
theorem spec_ruReach.calls (a0 : ByteArray) (a1_0 a1_1 a1_2 : Bool) (r1 : List ByteArray) (r2 : List Int) (w : World) (h : spec_ruReach.f a0 a1_0 a1_1 a1_2 = some (r1, r2)) :
    Calls Tryd.prog 56 #[.string a0, .agg #[.bool a1_0, .bool a1_1, .bool a1_2]] w fun e w' => ∃ v0_ v1_ : Value, e = .returned (.agg #[v0_, v1_]) ∧ Kd.R Kd.string 9 w' w.heap.size (fun _ => True) v0_ r1 ∧ Kd.R (Kd.int .i64) 3 w' w.heap.size (fun _ => True) v1_ r2 ∧ Below w.heap.size w w' := by
  unfold spec_ruReach.f at h
  obtain ⟨E, hE, h⟩ := Option.bind_eq_some_iff.mp h
  cases h
  exact (spec_ruReach.walk 3000 100000 a0 _ _ _ E w hE).mono fun e w' hh => by
    obtain ⟨⟨v0, v1, rfl, h0, h1, _⟩, hb⟩ := hh
    exact ⟨v0, v1, rfl, h0, h1, hb⟩

end Go.Proofs.YtjgijaocinpkhaaDoor.XT
