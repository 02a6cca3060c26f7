/- The moves that a rule allows, for the reference and for the program: for all lines of 1 to 10 signs and all rules. -/
import Derived.Test.YtpelhinjoambfaaXD0
import Derived.Test.YtpelhinjoambfaaXD1
import Derived.Test.YtpelhinjoambfaaXD6
import Derived.Test.YtpelhinjoambfaaXD7
import Derived.Test.YtpelhinjoambfaaLDrulecan
import Derived.Test.YtpelhinjoambfaaLDcollect
namespace Go.Proofs.Ytpelhinjoambfaa.XD
set_option linter.unusedVariables false
set_option linter.unusedSimpArgs false
open Go Go.RowKit Go.Proofs.YtpelhinjoambfaaW.PrintWords Go.Proofs.YtpelhinjoambfaaB

def opt (i : Nat) (t : Option Int) : List S58 := match t with | some t => [⟨(i : Int), t⟩] | none => []
theorem opt_length (i : Nat) (t : Option Int) : (opt i t).length ≤ 1 := by unfold opt; split <;> simp
def bmove (a : ByteArray) (o b l : Bool) (i : Nat) : List S58 := opt i (bgo a o b l i (-1)) ++ opt i (bgo a o b l i 1)
theorem bmove_length (a : ByteArray) (o b l : Bool) (i : Nat) : (bmove a o b l i).length ≤ 2 := by
  have h1 := opt_length i (bgo a o b l i (-1))
  have h2 := opt_length i (bgo a o b l i 1)
  unfold bmove
  rw [List.length_append]
  omega
/-- the moves that a rule allows -/
def bmoves (a : ByteArray) (o b l : Bool) : List S58 := each (bmove a o b l) (min a.size 50) 0
theorem bmoves_length (a : ByteArray) (o b l : Bool) : (bmoves a o b l).length ≤ 100 := by
  have := each_length (bmove a o b l) 2 (bmove_length a o b l) (min a.size 50) 0
  unfold bmoves
  omega
theorem bmoves_mem (a : ByteArray) (hs : a.size ≤ 50) (o b l : Bool) (f t : Int) : (⟨f, t⟩ : S58) ∈ bmoves a o b l ↔ bcan a o b l f t = true := by
  unfold bmoves bcan
  rw [each_mem]
  simp only [Bool.and_eq_true, decide_eq_true_eq, Bool.or_eq_true, beq_iff_eq]
  have ho : ∀ (i : Nat) (x : Option Int), (⟨f, t⟩ : S58) ∈ opt i x ↔ f = (i : Int) ∧ x = some t := by
    intro i x
    unfold opt
    cases x with
    | none => simp
    | some y =>
      simp only [List.mem_singleton, S58.mk.injEq, Option.some.injEq]
      exact ⟨fun h => ⟨h.1, h.2.symm⟩, fun h => ⟨h.1, h.2.symm⟩⟩
  constructor
  · rintro ⟨j, _, h2, h3⟩
    unfold bmove at h3
    rw [List.mem_append, ho, ho] at h3
    rcases h3 with ⟨rfl, h⟩ | ⟨rfl, h⟩
    · exact ⟨⟨by omega, by omega⟩, .inl (by rw [Int.toNat_natCast]; exact h)⟩
    · exact ⟨⟨by omega, by omega⟩, .inr (by rw [Int.toNat_natCast]; exact h)⟩
  · rintro ⟨⟨h0, h1⟩, h2⟩
    refine ⟨f.toNat, by omega, by omega, ?_⟩
    unfold bmove
    rw [List.mem_append, ho, ho]
    rcases h2 with h2 | h2
    · exact .inl ⟨by omega, h2⟩
    · exact .inr ⟨by omega, h2⟩
theorem bmoves_can (a : ByteArray) (hs : a.size ≤ 50) (o b l : Bool) (f t : Int) : decide ((⟨f, t⟩ : S58) ∈ bmoves a o b l) = bcan a o b l f t := by
  rw [Bool.eq_iff_iff, decide_eq_true_iff]
  exact bmoves_mem a hs o b l f t
theorem bcan_in {a : ByteArray} (hs : a.size ≤ 100) {o b l : Bool} {f t : Int} (h : bcan a o b l f t = true) : 0 ≤ f ∧ f < (a.size : Int) ∧ 0 ≤ t ∧ t < (a.size : Int) ∧ f ≠ t := by
  unfold bcan at h
  simp only [Bool.and_eq_true, decide_eq_true_eq, Bool.or_eq_true, beq_iff_eq] at h
  obtain ⟨⟨f0, f1⟩, h⟩ := h
  rcases h with h | h
  · obtain ⟨g0, g1, _, _, _, g⟩ := bgo_in hs (by omega) (.inr rfl) h
    have := g rfl
    exact ⟨f0, f1, g0, g1, by omega⟩
  · obtain ⟨g0, g1, _, _, g, _⟩ := bgo_in hs (by omega) (.inl rfl) h
    have := g rfl
    exact ⟨f0, f1, g0, g1, by omega⟩
/-- one direction of the program's loop -/
theorem movesBy_dir (a : ByteArray) (hs : a.size ≤ 100) (i : Nat) (hi : i < a.size) (o b l : Bool) (q : Nat) (hq : q < 2) (d : Int) (hd : d = 1 ∨ d = -1) (hy : rd ([-1, 1] : List Int) (q : Int) = d) (acc : List S58) (ha : acc.length ≤ 1000) (k : Nat) (hk : 300 ≤ k) (R : List S58)
    (H : ∀ acc' k', acc'.length ≤ acc.length + 1 → k ≤ k' + 2 → k' ≤ k → impl_movesBy.l1 k' a acc' (i : Int) (a.size : Int) (i : Int) [-1, 1] 2 ((q + 1 : Nat) : Int) o b l = some (acc' ++ R)) :
    impl_movesBy.l1 k a acc (i : Int) (a.size : Int) (i : Int) [-1, 1] 2 (q : Int) o b l = some (acc ++ (opt i (bgo a o b l i d) ++ R)) := by
  obtain ⟨k, rfl⟩ : ∃ m, k = m + 2 := ⟨k - 2, by omega⟩
  have z1 : (q : Int) < 2 := by omega
  have z2 : (0 : Int) ≤ (q : Int) := by omega
  have z3 : (0 : Int) ≤ (i : Int) := by omega
  have z4 : (i : Int) < (a.size : Int) := by omega
  have z5 : acc.length < 8796093022208 := by omega
  have w : wrap64 ((q : Int) + 1) = ((q + 1 : Nat) : Int) := by rw [w64 (by omega) (by omega)]; rfl
  have skip := H acc k (by omega) (by omega) (by omega)
  have add := fun t : Int => H (acc ++ [⟨(i : Int), t⟩]) k (by rw [List.length_append]; simp) (by omega) (by omega)
  have none_ : bgo a o b l i d = none → some (acc ++ R) = some (acc ++ (opt i (bgo a o b l i d) ++ R)) := fun h => by rw [h]; rfl
  simp only [impl_movesBy.l1, impl_movesBy.j2]
  rw [if_pos z1, if_pos z2, if_pos (show (q : Int) < (([-1, 1] : List Int).length : Int) from z1), if_pos z3, if_pos z4, hy, w, skip]
  unfold impl_stepOf.f
  by_cases hc : bt a (i : Int) = 84 ∨ bt a (i : Int) = 70
  case neg =>
    rw [if_neg (fun h => hc (.inl h)), if_neg (fun h => hc (.inr h))]
    simp only [Option.bind_some, if_true]
    exact none_ (by unfold bgo; rw [if_neg (fun h => hc h.1)])
  obtain ⟨M, h1, h2, h3, h4, h5⟩ := goalBy_eq a hs i hi hc d hd o b l
  have main : ((impl_goalBy.f k a (i : Int) d o b l).bind fun bt277 => (if bt277.2 = true then (if acc.length < 8796093022208 then (impl_movesBy.l1 k a (acc ++ [(⟨(i : Int), bt277.1⟩ : S58)]) (i : Int) (a.size : Int) (i : Int) [-1, 1] 2 ((q + 1 : Nat) : Int) o b l) else (none)) else some (acc ++ R))) = some (acc ++ ((match impl_goalBy.f 200 a (i : Int) d o b l with | some (t, true) => opt i (some t) | _ => []) ++ R)) := by
    rw [h5 k (by omega), h5 200 (by omega)]
    simp only [Option.bind_some]
    by_cases q1 : sg a ((i : Int) + d * (M : Int)) = 46 ∧ (M ≤ 2 ∨ l = true)
    · rw [decide_eq_true q1, if_pos rfl, if_pos z5, add, List.append_assoc]
      rfl
    · rw [decide_eq_false q1, if_neg (by decide)]
      rfl
  have yes : ((bt a (i : Int) = 84 ↔ d = 1) ∨ b = true) → some (acc ++ ((match impl_goalBy.f 200 a (i : Int) d o b l with | some (t, true) => opt i (some t) | _ => []) ++ R)) = some (acc ++ (opt i (bgo a o b l i d) ++ R)) := by
    intro h
    unfold bgo
    rw [if_pos ⟨hc, h⟩, h5 200 (by omega)]
    cases decide (sg a ((i : Int) + d * (M : Int)) = 46 ∧ (M ≤ 2 ∨ l = true)) <;> rfl
  have hne : ¬ ((bt a (i : Int) = 84 ↔ d = 1) ∨ b = true) → bgo a o b l i d = none := fun h => by unfold bgo; rw [if_neg (fun h2 => h h2.2)]
  by_cases c84 : bt a (i : Int) = 84
  · rw [if_pos c84]
    simp only [Option.bind_some]
    rw [if_neg (by decide)]
    rcases hd with rfl | rfl
    · rw [if_pos rfl, if_neg (by decide), main, yes (.inl (by simp [c84]))]
    · rw [if_neg (by decide)]
      cases b with
      | true => rw [if_neg (by decide), main, yes (.inr rfl)]
      | false => rw [if_pos (show (!false) = true from rfl), none_ (hne (by simp [c84]))]
  · rw [if_neg c84, if_pos (hc.resolve_left c84)]
    simp only [Option.bind_some]
    rw [if_neg (by decide)]
    rcases hd with rfl | rfl
    · rw [if_neg (by decide)]
      cases b with
      | true => rw [if_neg (by decide), main, yes (.inr rfl)]
      | false => rw [if_pos (show (!false) = true from rfl), none_ (hne (by simp [c84]))]
    · rw [if_pos rfl, if_neg (by decide), main, yes (.inl (by simp [c84]))]
theorem movesBy_l0 (a : ByteArray) (hs : a.size ≤ 50) (o b l : Bool) : ∀ (d i : Nat) (acc : List S58) (k : Nat), i + d = a.size → acc.length + 2 * d ≤ 200 → d * 10 + 400 ≤ k → impl_movesBy.l0 k a acc (a.size : Int) (i : Int) o b l = some (acc ++ each (bmove a o b l) d i) := by
  intro d
  induction d with
  | zero =>
    intro i acc k hi ha hk
    obtain ⟨k, rfl⟩ : ∃ m, k = m + 1 := ⟨k - 1, by omega⟩
    simp only [impl_movesBy.l0]
    rw [if_neg (by omega), each, List.append_nil]
  | succ d ih =>
    intro i acc k hi ha hk
    obtain ⟨k, rfl⟩ : ∃ m, k = m + 1 := ⟨k - 1, by omega⟩
    simp only [impl_movesBy.l0]
    rw [if_pos (by omega)]
    simp only [Option.bind_some]
    rw [each, bmove, List.append_assoc]
    refine movesBy_dir a (by omega) i (by omega) o b l 0 (by omega) (-1) (.inr rfl) rfl acc (by omega) k (by omega) _ fun acc1 k1 h1 h2 h3 => ?_
    refine movesBy_dir a (by omega) i (by omega) o b l 1 (by omega) 1 (.inl rfl) rfl acc1 (by omega) k1 (by omega) _ fun acc2 k2 g1 g2 g3 => ?_
    obtain ⟨k2, rfl⟩ : ∃ m, k2 = m + 1 := ⟨k2 - 1, by omega⟩
    have w : wrap64 ((i : Int) + 1) = ((i + 1 : Nat) : Int) := by rw [w64 (by omega) (by omega)]; rfl
    simp only [impl_movesBy.l1]
    rw [if_neg (by decide), w]
    exact ih (i + 1) acc2 k2 (by omega) (by omega) (by omega)
theorem movesBy_eq (a : ByteArray) (hs1 : 1 ≤ a.size) (hs : a.size ≤ 10) (hl : a.data.toList.all sgn = true) (o b l : Bool) (k : Nat) (hk : 1000 ≤ k) : impl_movesBy.f k a o b l = some (bmoves a o b l) := by
  have h := movesBy_l0 a (by omega) o b l a.size 0 [] k (by omega) (by simp; omega) (by omega)
  unfold impl_movesBy.f bmoves
  rw [show min a.size 50 = a.size from by omega]
  exact h
theorem collect_bmove (a : ByteArray) (hs : a.size ≤ 100) (o b l : Bool) (i : Nat) (hi : i < a.size) : collect (bcan a o b l (i : Int)) (i : Int) a.size 0 = bmove a o b l i := by
  have f1 : 0 ≤ (i : Int) ∧ (i : Int) < (a.size : Int) := by omega
  have hb : ∀ t, bcan a o b l (i : Int) t = (bgo a o b l i (-1) == some t || bgo a o b l i 1 == some t) := fun t => by
    unfold bcan
    rw [decide_eq_true f1, Bool.true_and, Int.toNat_natCast]
  obtain ⟨e, he⟩ : ∃ e, a.size = i + e := ⟨a.size - i, by omega⟩
  rw [he, collect_split, Nat.zero_add]
  unfold bmove
  congr 1
  · have hno : ∀ t : Nat, t < i → (bgo a o b l i 1 == some (t : Int)) = false := fun t ht => by
      rw [beq_eq_false_iff_ne]
      intro h
      have := (bgo_in hs hi (.inl rfl) h).2.2.2.2.1 rfl
      omega
    cases hg : bgo a o b l i (-1) with
    | none => exact collect_none _ _ _ _ (fun t _ h => by rw [hb, hg, hno t (by omega)]; rfl)
    | some g =>
      obtain ⟨g0, g1, _, _, _, g2⟩ := bgo_in hs hi (.inr rfl) hg
      have g2 := g2 rfl
      obtain ⟨m, rfl⟩ : ∃ m : Nat, g = (m : Int) := ⟨g.toNat, by omega⟩
      refine collect_one _ _ _ _ m (by omega) (by omega) (fun t _ h => ?_)
      rw [hb, hg, hno t (by omega), Bool.or_false, beq_iff_eq, Option.some.injEq]
      omega
  · have hno : ∀ t : Nat, i ≤ t → (bgo a o b l i (-1) == some (t : Int)) = false := fun t ht => by
      rw [beq_eq_false_iff_ne]
      intro h
      have := (bgo_in hs hi (.inr rfl) h).2.2.2.2.2 rfl
      omega
    cases hg : bgo a o b l i 1 with
    | none => exact collect_none _ _ _ _ (fun t h _ => by rw [hb, hg, hno t (by omega)]; rfl)
    | some g =>
      obtain ⟨g0, g1, _, _, g2, _⟩ := bgo_in hs hi (.inl rfl) hg
      have g2 := g2 rfl
      obtain ⟨m, rfl⟩ : ∃ m : Nat, g = (m : Int) := ⟨g.toNat, by omega⟩
      refine collect_one _ _ _ _ m (by omega) (by omega) (fun t h _ => ?_)
      rw [hb, hg, hno t (by omega), Bool.false_or, beq_iff_eq, Option.some.injEq]
      omega
end Go.Proofs.Ytpelhinjoambfaa.XD
