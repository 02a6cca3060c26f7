/- Whether moves are an exchange, for the reference and for the program: for all counts and all lists of moves. -/
import Derived.Test.YtgiphajcffambaaXE0
import Derived.Test.YtgiphajcffambaaXE11
import Derived.Test.YtgiphajcffambaaXE2
import Derived.Test.YtgiphajcffambaaXE5
import Derived.Test.YtgiphajcffambaaXE6
import Derived.Test.YtgiphajcffambaaXE7
import Derived.Test.YtgiphajcffambaaXE8
import Derived.Test.YtgiphajcffambaaLEliplay0
import Derived.Test.YtgiphajcffambaaLElast
import Derived.Test.YtgiphajcffambaaLEthree0
namespace Go.Proofs.Ytgiphajcffambaa.XE
set_option linter.unusedVariables false
set_option linter.unusedSimpArgs false
open Go Go.RowKit Go.Proofs.YtgiphajcffambaaW.PrintWords Go.Proofs.YtgiphajcffambaaB

theorem stop_inv (c : ByteArray → Int → Int → Bool) (P : ByteArray → Prop) (h : ∀ s f t, P s → c s f t = true → P (mv s f t)) : ∀ (l : List S35) (s : ByteArray) (i : Nat), P s → P (stop c l s i).1
  | [], _, _, hp => hp
  | m :: l, s, i, hp => by
    by_cases hc : c s m.f0 m.f1 = true
    · rw [stop_yes hc]
      exact stop_inv c P h l _ (i + 1) (h s _ _ hp hc)
    · rw [stop_no hc]
      exact hp
theorem mv_count (a : ByteArray) (f t : Int) (f0 : 0 ≤ f) (f1 : f < (a.size : Int)) (t0 : 0 ≤ t) (t1 : t < (a.size : Int)) (ne : f ≠ t) (h46 : bt a t = 46) (c : UInt8) : (mv a f t).data.toList.count c = a.data.toList.count c := by
  obtain ⟨i, rfl⟩ : ∃ i : Nat, f = (i : Int) := ⟨f.toNat, by omega⟩
  obtain ⟨j, rfl⟩ : ∃ j : Nat, t = (j : Int) := ⟨t.toNat, by omega⟩
  have hi : i < a.data.toList.length := by rw [data_length]; omega
  have hj : j < a.data.toList.length := by rw [data_length]; omega
  have hij : i ≠ j := by omega
  obtain ⟨x, hd, hb⟩ := bt_eq a j (by omega)
  rw [hb, is46] at h46
  subst h46
  have hlj : a.data.toList[j] = 46 := by
    rw [List.drop_eq_getElem_cons hj] at hd
    injection hd
  unfold mv
  simp only [Int.toNat_natCast]
  show List.count c ((a.data.toList.set j (a.data.toList.getD i 0)).set i 46) = _
  rw [List.getD_eq_getElem?_getD, List.getElem?_eq_getElem hi]
  simp only [Option.getD_some]
  rw [List.count_set (h := by rw [List.length_set]; exact hi), List.count_set (h := hj), List.getElem_set, if_neg (show ¬ j = i by omega), hlj]
  have p1 : (46 == c) = true → 1 ≤ a.data.toList.count c := fun h => by
    have : (46 : UInt8) = c := by simpa using h
    subst this
    exact List.one_le_count_iff.2 (hlj ▸ List.getElem_mem hj)
  have p2 : (a.data.toList[i] == c) = true → 1 ≤ a.data.toList.count c := fun h => by
    have : a.data.toList[i] = c := by simpa using h
    exact List.one_le_count_iff.2 (this ▸ List.getElem_mem hi)
  revert p1 p2
  generalize (46 == c) = b1
  generalize (a.data.toList[i] == c) = b2
  generalize List.count c a.data.toList = n
  intro p1 p2
  cases b1 <;> cases b2 <;> simp_all <;> omega
theorem spec_first_eq (t g f : Nat) (h : t + g + f ≤ 1000) (k : Nat) (hk : 1001 < k) : spec_liFirst.f k (t : Int) (g : Int) (f : Int) = some (three 84 t g 70 f) := by
  unfold spec_liFirst.f three
  rw [liTimes_eq 84 t k (by omega) (by omega), liTimes_eq 46 g k (by omega) (by omega), liTimes_eq 70 f k (by omega) (by omega)]
  simp only [Option.bind_some]
  rw [if_pos (by rw [reps_size, reps_size]; omega), if_pos (by rw [size_append, reps_size, reps_size, reps_size]; omega)]
theorem impl_first_eq (t g f : Nat) (h : t + g + f ≤ 1000) : impl_first.f (t : Int) (g : Int) (f : Int) = some (three 84 t g 70 f) := by
  unfold impl_first.f impl_ordered.f three
  rw [show Utf8.encode 84 = (⟨#[84]⟩ : ByteArray) from by decide, show Utf8.encode 70 = (⟨#[70]⟩ : ByteArray) from by decide, repeat_eq 84 t (by omega), repeat_eq 46 g (by omega), repeat_eq 70 f (by omega)]
  simp only [Option.bind_some]
  rw [if_pos (by rw [reps_size, reps_size]; omega), if_pos (by rw [size_append, reps_size, reps_size, reps_size]; omega)]
  rfl
theorem spec_swNumbers_eq (x y z : Int) (k : Nat) (hk : 20 ≤ k) : spec_swNumbers.f k x y z = some (threeB 8 x y z) := by
  refine at_rounds (spec_swNumbers.mono x y z) hk ?_
  unfold spec_swNumbers.f threeB
  rw [all_eq3]
  simp only [Option.bind_some, in_eq3]
  generalize decide (0 ≤ x ∧ x ≤ 8) = p
  generalize decide (0 ≤ y ∧ y ≤ 8) = q
  generalize decide (0 ≤ z ∧ z ≤ 8) = r
  cases p <;> cases q <;> cases r <;> rfl
theorem exchange_both (x y z : Int) (r : List S35) (k : Nat) (hk : r.length + 1200 < k) : ∃ q, spec_IsExchange.f k x y z r = some q ∧ impl_IsExchange.f x y z r = some q := by
  unfold spec_IsExchange.f impl_IsExchange.f spec_swMoves.f
  rw [spec_swNumbers_eq x y z k (by omega), impl_three3]
  simp only [Option.bind_some]
  cases h3 : threeB 8 x y z with
  | false => exact ⟨_, rfl, rfl⟩
  | true =>
    obtain ⟨t, g, f, rfl, rfl, rfl, h1, h2⟩ := threeB_is (by omega) h3
    simp only [if_true, Option.bind_some]
    by_cases hl : 100 < r.length
    · rw [if_neg (by simp; omega), if_pos hl]
      exact ⟨_, rfl, rfl⟩
    · rw [if_pos (by simp; omega), if_neg hl]
      have hs : (three 84 t g 70 f).size = t + g + f := three_size 84 70 t g f
      have hI : lineI (three 84 t g 70 f) := by unfold lineI; rw [hs]; omega
      unfold spec_swIs.f
      rw [spec_first_eq t g f (by omega) k (by omega), impl_first_eq t g f (by omega)]
      simp only [Option.bind_some]
      generalize hw : three 84 t g 70 f = w at *
      rw [liPlay_eq r (by omega) w hI k (by omega), playL_eq lineI _ canB line_can line_made r w 0 hI]
      simp only [Option.bind_some, ends, Nat.zero_add]
      have hP := stop_inv canB (fun s => lineI s ∧ s.size = w.size ∧ ∀ c, s.data.toList.count c = w.data.toList.count c) (fun s f t hp hc => by
        obtain ⟨f0, f1, t0, t1, ne⟩ := canB_in hc
        have h46 : bt s t = 46 := (of_decide_eq_true hc).2.2.2.2.1
        exact ⟨(line_made s f t hp.1 hc).2, (mv_size s f t).trans hp.2.1, fun c => (mv_count s f t f0 f1 t0 t1 ne h46 c).trans (hp.2.2 c)⟩) r w 0 ⟨hI, rfl, fun _ => rfl⟩
      rw [impl_last_eq w (by omega)]
      by_cases he : (stop canB r w 0).2 = r.length
      · rw [if_pos (by omega), if_pos he, liLast_eq _ (by rw [hP.2.1]; omega) k (by rw [hP.2.1]; omega), hP.2.2, hP.2.2, hP.2.2]
        exact ⟨_, rfl, rfl⟩
      · rw [if_neg (by omega), if_neg he]
        refine ⟨(false, true), rfl, ?_⟩
        simp only [Option.bind_some]
        congr 2
        rw [beq_eq_false_iff_ne]
        intro h
        have hsz := congrArg List.length h
        rw [Lib.toList_data, Lib.toList_data, data_length, data_length, three_size] at hsz
        have c1 : w.data.toList.count 84 + w.data.toList.count 46 + w.data.toList.count 70 = t + g + f := by
          rw [← hw, three_list]
          simp [List.count_append, List.count_replicate]
        have : (⟨#[]⟩ : ByteArray).size = 0 := rfl
        omega
end Go.Proofs.Ytgiphajcffambaa.XE
