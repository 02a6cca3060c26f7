/- FnExactWordOfRuns without Go: for every list of runs that memory holds, the program's WordOfRuns is the reference's, and the list stays as it was. -/
import Derived.Test.YtpelhinjoambfaaLAtimes
import Derived.Test.YtpelhinjoambfaaXA1
import Derived.Test.YtpelhinjoambfaaXA2
import Derived.Test.YtpelhinjoambfaaXA3
import Derived.Test.YtpelhinjoambfaaXA4
namespace Go.Proofs.Ytpelhinjoambfaa.Pure
set_option linter.unusedVariables false
set_option linter.unusedSimpArgs false
open Go Go.RowKit Go.Proofs.YtpelhinjoambfaaW.PrintWords Go.Proofs.Ytpelhinjoambfaa.XA Go.Proofs.YtpelhinjoambfaaB
/-- whether the runs, behind acc signs, make a word -/
def good : List Int → Int → Bool
  | [], _ => true
  | n :: l, acc => decide (1 ≤ n ∧ n ≤ 40 - acc) && good l (acc + n)
def sign (toad : Bool) : UInt8 := if toad = true then 84 else 70
/-- the signs of the runs -/
def signs : List Int → Bool → List UInt8
  | [], _ => []
  | n :: l, t => List.replicate n.toNat (sign t) ++ signs l (!t)
theorem good_len : ∀ (l : List Int) (acc : Int), acc ≤ 40 → good l acc = true → (l.length : Int) + acc ≤ 40
  | [], acc, h, _ => by simpa using h
  | n :: l, acc, _, hg => by
    simp only [good, Bool.and_eq_true, decide_eq_true_eq] at hg
    have := good_len l (acc + n) (by omega) hg.2
    rw [List.length_cons]
    omega
theorem good_all : ∀ (l : List Int) (acc : Int), 0 ≤ acc → good l acc = true → ∀ n ∈ l, 1 ≤ n ∧ n ≤ 40
  | [], _, _, _, n, hn => by cases hn
  | m :: l, acc, h0, hg, n, hn => by
    simp only [good, Bool.and_eq_true, decide_eq_true_eq] at hg
    rcases List.mem_cons.1 hn with rfl | hn
    · omega
    · exact good_all l (acc + m) (by omega) hg.2 n hn
theorem rd_dropI (l : List Int) (i : Nat) (hi : i < l.length) : l.drop i = rd l (i : Int) :: l.drop (i + 1) := by
  rw [List.drop_eq_getElem_cons hi]
  unfold rd
  rw [Int.toNat_natCast, List.getD_eq_getElem?_getD, List.getElem?_eq_getElem hi]
  rfl
def ans (g : Bool) (l : List UInt8) : ByteArray × Bool := if g = true then ((⟨l.toArray⟩ : ByteArray), true) else ((⟨#[]⟩ : ByteArray), false)
theorem within_eq' (a b c : Int) : impl_within.f a b c = some (decide (b ≤ a ∧ a ≤ c)) := by
  unfold impl_within.f
  by_cases h : b ≤ a <;> simp [h]
theorem l1In_eq' (a b c : Int) : spec_l1In.f a b c = some (decide (b ≤ a ∧ a ≤ c)) := by
  unfold spec_l1In.f
  by_cases h : b ≤ a <;> simp [h]
theorem bytesOf_reps (c : UInt8) (n : Nat) : bytesOf (reps c n) = (List.replicate n c).map fun b => (b.toNat : Int) := by
  rw [← reps_list]
  rfl
theorem nums_str' (l : List UInt8) : strOfNums (l.map fun b => (b.toNat : Int)) = ⟨l.toArray⟩ := by
  unfold strOfNums
  rw [List.map_map]
  congr 2
  conv => rhs; rw [← List.map_id l]
  apply List.map_congr_left
  intro b _
  simp
theorem impl_l0 (l : List Int) (hl : l.length ≤ 2000000) : ∀ (d i k : Nat) (t : Bool) (bs : List UInt8), i + d = l.length → d < k → bs.length ≤ 40 →
    impl_WordOfRuns.l0 k t (bs.map fun b => (b.toNat : Int)) l (l.length : Int) (i : Int) = some (ans (good (l.drop i) (bs.length : Int)) (bs ++ signs (l.drop i) t)) := by
  intro d
  induction d with
  | zero =>
    intro i k t bs hi hk hb
    obtain ⟨k, rfl⟩ : ∃ m, k = m + 1 := ⟨k - 1, by omega⟩
    simp only [impl_WordOfRuns.l0]
    rw [if_neg (by omega), List.drop_of_length_le (by omega), nums_str', signs, List.append_nil]
    rfl
  | succ d ih =>
    intro i k t bs hi hk hb
    obtain ⟨k, rfl⟩ : ∃ m, k = m + 1 := ⟨k - 1, by omega⟩
    have z1 : (i : Int) < (l.length : Int) := by omega
    have z2 : (0 : Int) ≤ (i : Int) := by omega
    have hbl : ((bs.map fun b : UInt8 => (b.toNat : Int)).length : Int) = (bs.length : Int) := by rw [List.length_map]
    have w1 : wrap64 (40 - (bs.length : Int)) = 40 - (bs.length : Int) := w64 (by omega) (by omega)
    have w2 : wrap64 ((i : Int) + 1) = ((i + 1 : Nat) : Int) := w64_succ (n := l.length) (by omega) (by omega)
    simp only [impl_WordOfRuns.l0]
    rw [if_pos z1, if_pos z2, if_pos z1, within_eq', hbl, w1, w2, rd_dropI l i (by omega)]
    generalize rd l (i : Int) = n
    simp only [Option.bind_some, good, signs]
    by_cases h : 1 ≤ n ∧ n ≤ 40 - (bs.length : Int)
    · clear w1 w2
      obtain ⟨m, rfl⟩ : ∃ m : Nat, n = (m : Int) := ⟨n.toNat, by omega⟩
      have hm : bs.length + m ≤ 40 := by omega
      have g := ih (i + 1) k (!t) (bs ++ List.replicate m (sign t)) (by omega) (by omega) (by rw [List.length_append, List.length_replicate]; omega)
      have hk2 : impl_kindOf.f t = some (⟨#[sign t]⟩ : ByteArray) := by cases t <;> rfl
      have hz : (bs.map fun b : UInt8 => (b.toNat : Int)).length + (reps (sign t) m).size < 140737488355328 := by rw [List.length_map, reps_size]; omega
      rw [decide_eq_true h, if_pos rfl, hk2]
      simp only [Option.bind_some]
      rw [repeat_eq (sign t) m (by omega)]
      simp only [Option.bind_some]
      rw [if_pos hz, bytesOf_reps, ← List.map_append, g, List.length_append, List.length_replicate, Bool.true_and, List.append_assoc, Int.toNat_natCast]
      rfl
    · rw [decide_eq_false h, if_neg (by decide), Bool.false_and]
      rfl
theorem spec_l0 (l : List Int) (hl : l.length ≤ 40) (ha : ∀ n ∈ l, 1 ≤ n ∧ n ≤ 40) : ∀ (d i k : Nat) (t : Bool) (bs : List UInt8), i + d = l.length → d + 100 < k → bs.length ≤ 40 →
    spec_WordOfRuns.l0 k t (⟨bs.toArray⟩ : ByteArray) l (l.length : Int) (i : Int) = some (ans (good (l.drop i) (bs.length : Int)) (bs ++ signs (l.drop i) t)) := by
  intro d
  induction d with
  | zero =>
    intro i k t bs hi hk hb
    obtain ⟨k, rfl⟩ : ∃ m, k = m + 1 := ⟨k - 1, by omega⟩
    simp only [spec_WordOfRuns.l0]
    rw [if_neg (by omega), List.drop_of_length_le (by omega), signs, List.append_nil]
    rfl
  | succ d ih =>
    intro i k t bs hi hk hb
    obtain ⟨k, rfl⟩ : ∃ m, k = m + 1 := ⟨k - 1, by omega⟩
    have z1 : (i : Int) < (l.length : Int) := by omega
    have z2 : (0 : Int) ≤ (i : Int) := by omega
    have hd := rd_dropI l i (by omega)
    have hin : rd l (i : Int) ∈ l := List.mem_of_mem_drop (by rw [hd]; exact List.mem_cons_self)
    have hn := ha _ hin
    rw [hd]
    simp only [spec_WordOfRuns.l0]
    rw [if_pos z1, if_pos z2, if_pos z1]
    generalize rd l (i : Int) = n at *
    obtain ⟨m, rfl⟩ : ∃ m : Nat, n = (m : Int) := ⟨n.toNat, by omega⟩
    have hbz : (⟨bs.toArray⟩ : ByteArray).size = bs.length := by simp [ByteArray.size]
    have key : ∀ c : UInt8, c = sign t → ((spec_liTimes.f k (⟨#[c]⟩ : ByteArray) (m : Int)).bind fun t105 => (if (⟨bs.toArray⟩ : ByteArray).size + t105.size ≤ 9223372036854775807 then (if (((⟨bs.toArray⟩ : ByteArray) ++ t105).size : Int) > 40 then (some ((⟨#[]⟩ : ByteArray), false)) else (spec_WordOfRuns.l0 k (!t) ((⟨bs.toArray⟩ : ByteArray) ++ t105) l (l.length : Int) (wrap64 ((i : Int) + 1)))) else (none))) = some (ans (good ((m : Int) :: l.drop (i + 1)) (bs.length : Int)) (bs ++ signs ((m : Int) :: l.drop (i + 1)) t)) := by
      intro c hc
      subst hc
      rw [liTimes_eq (sign t) m k (by omega) (by omega)]
      simp only [Option.bind_some, good, signs]
      rw [size_append, hbz, reps_size, if_pos (by omega)]
      have hap : (⟨bs.toArray⟩ : ByteArray) ++ reps (sign t) m = (⟨(bs ++ List.replicate m (sign t)).toArray⟩ : ByteArray) := by
        apply ba_ext
        rw [data_append, reps_list]
      by_cases h : ((bs.length + m : Nat) : Int) > 40
      · rw [if_pos h, decide_eq_false (fun h2 => by omega), Bool.false_and]
        rfl
      · have g := ih (i + 1) k (!t) (bs ++ List.replicate m (sign t)) (by omega) (by omega) (by rw [List.length_append, List.length_replicate]; omega)
        rw [if_neg h, decide_eq_true (by omega), hap, w64_succ (n := l.length) (by omega) (by omega), g, List.length_append, List.length_replicate, Bool.true_and, List.append_assoc, Int.toNat_natCast]
        rfl
    cases t with
    | true => rw [if_pos rfl]; exact key 84 rfl
    | false => rw [if_neg (by decide)]; exact key 70 rfl
theorem all_l0 (l : List Int) (hl : l.length ≤ 40) : ∀ (d i k : Nat), i + d = l.length → d < k → spec_l1All.l0 k 1 40 l (l.length : Int) (i : Int) = some ((l.drop i).all fun n => decide (1 ≤ n ∧ n ≤ 40)) := by
  intro d
  induction d with
  | zero =>
    intro i k hi hk
    obtain ⟨k, rfl⟩ : ∃ m, k = m + 1 := ⟨k - 1, by omega⟩
    simp only [spec_l1All.l0]
    rw [if_neg (by omega), List.drop_of_length_le (by omega)]
    rfl
  | succ d ih =>
    intro i k hi hk
    obtain ⟨k, rfl⟩ : ∃ m, k = m + 1 := ⟨k - 1, by omega⟩
    have z1 : (i : Int) < (l.length : Int) := by omega
    have z2 : (0 : Int) ≤ (i : Int) := by omega
    simp only [spec_l1All.l0]
    rw [if_pos z1, if_pos z2, if_pos z1, l1In_eq', w64_succ (n := l.length) (by omega) (by omega), ih (i + 1) k (by omega) (by omega), rd_dropI l i (by omega), List.all_cons]
    simp only [Option.bind_some]
    cases decide (1 ≤ rd l (i : Int) ∧ rd l (i : Int) ≤ 40) <;> rfl
theorem toIntS_l0 (l : List Int) (hs : l.length ≤ 10000000) : ∀ (d i : Nat) (acc : List Int), acc.length = l.length → i + d = l.length → ∃ r : List Int, r.length = l.length ∧ ∀ k, d < k → laws_toIntS.l0 k l acc (i : Int) = some r := by
  intro d
  induction d with
  | zero =>
    intro i acc ha hi
    refine ⟨acc, ha, fun k hk => ?_⟩
    obtain ⟨k, rfl⟩ : ∃ m, k = m + 1 := ⟨k - 1, by omega⟩
    simp only [laws_toIntS.l0]
    rw [if_neg (by omega)]
  | succ d ih =>
    intro i acc ha hi
    obtain ⟨r, hr, h⟩ := ih (i + 1) (acc.set i (rd l (i : Int))) (by rw [List.length_set]; exact ha) (by omega)
    refine ⟨r, hr, fun k hk => ?_⟩
    obtain ⟨k, rfl⟩ : ∃ m, k = m + 1 := ⟨k - 1, by omega⟩
    simp only [laws_toIntS.l0]
    rw [if_pos (by omega), if_pos (by omega), if_pos (by omega), w64_succ (n := l.length) (by omega) (by omega), Int.toNat_natCast]
    exact h k (by omega)
theorem toIntS_eq (l : List Int) (hs : l.length ≤ 10000000) : ∃ r : List Int, r.length = l.length ∧ ∀ k, l.length < k → laws_toIntS.f k l = some r := by
  obtain ⟨r, hr, h⟩ := toIntS_l0 l hs l.length 0 (List.replicate l.length 0) (by simp) (by omega)
  refine ⟨r, hr, fun k hk => ?_⟩
  unfold laws_toIntS.f
  rw [if_pos (by omega), if_pos (by omega), Int.toNat_natCast]
  exact h k hk
theorem eqIntS_l0 (l : List Int) (hs : l.length ≤ 10000000) : ∀ (d i k : Nat), i + d = l.length → d < k → laws_eqIntS.l0 k l l (i : Int) = some true := by
  intro d
  induction d with
  | zero =>
    intro i k hi hk
    obtain ⟨k, rfl⟩ : ∃ m, k = m + 1 := ⟨k - 1, by omega⟩
    simp only [laws_eqIntS.l0]
    rw [if_neg (by omega)]
  | succ d ih =>
    intro i k hi hk
    obtain ⟨k, rfl⟩ : ∃ m, k = m + 1 := ⟨k - 1, by omega⟩
    simp only [laws_eqIntS.l0]
    rw [if_pos (by omega), if_pos (by omega), if_pos (by omega), w64_succ (n := l.length) (by omega) (by omega)]
    exact ih (i + 1) k (by omega) (by omega)
theorem eqIntS_same (l : List Int) (hs : l.length ≤ 10000000) (k : Nat) (hk : l.length < k) : laws_eqIntS.f k l l = some true := by
  unfold laws_eqIntS.f
  rw [if_pos rfl]
  exact eqIntS_l0 l hs l.length 0 k (by omega) hk
theorem FnExactWordOfRuns (l : List Int) (t : Bool) (hl : l.length * 8 ≤ 140737488351232) (_ : ∀ n ∈ l, (Lit.int .i64 n).wf = true) : ∃ k, laws_FnExactWordOfRuns.f k l t = some true := by
  refine ⟨l.length + 3000, ?_⟩
  unfold laws_FnExactWordOfRuns.f
  by_cases hb : (l.length : Int) > 1048576
  · rw [if_pos hb]
  rw [if_neg hb]
  have hl2 : l.length ≤ 1048576 := by omega
  obtain ⟨r, hr, hk⟩ := toIntS_eq l (by omega)
  rw [hk _ (by omega)]
  simp only [Option.bind_some]
  have hw : spec_WordOfRuns.f (l.length + 3000) r t = some (ans (good r 0) (signs r t)) ∧ impl_WordOfRuns.f (l.length + 3000) r t = some (ans (good r 0) (signs r t)) := by
    have h2 : impl_WordOfRuns.f (l.length + 3000) r t = some (ans (good r 0) (signs r t)) := impl_l0 r (by omega) r.length 0 (l.length + 3000) t [] (by omega) (by omega) (by simp)
    refine ⟨?_, h2⟩
    unfold spec_WordOfRuns.f
    simp only [spec_WordOfRuns.j0]
    by_cases h40 : (r.length : Int) > 40
    · rw [if_pos h40, if_pos trivial]
      cases hg : good r 0 with
      | false => rfl
      | true =>
        have := good_len r 0 (by omega) hg
        omega
    · rw [if_neg h40, show spec_l1All.f (l.length + 3000) r 1 40 = some (r.all fun n => decide (1 ≤ n ∧ n ≤ 40)) from all_l0 r (by omega) r.length 0 (l.length + 3000) (by omega) (by omega)]
      simp only [Option.bind_some]
      cases hall : (r.all fun n => decide (1 ≤ n ∧ n ≤ 40)) with
      | false =>
        rw [if_pos (show (!false) = true from rfl)]
        cases hg : good r 0 with
        | false => rfl
        | true =>
          have := good_all r 0 (by omega) hg
          have h3 : (r.all fun n => decide (1 ≤ n ∧ n ≤ 40)) = true := List.all_eq_true.2 fun n hn => decide_eq_true (this n hn)
          rw [hall] at h3
          cases h3
      | true =>
        rw [if_neg (show ¬ (!true) = true from by decide)]
        have ha : ∀ n ∈ r, 1 ≤ n ∧ n ≤ 40 := fun n hn => of_decide_eq_true (List.all_eq_true.1 hall n hn)
        exact spec_l0 r (by omega) ha r.length 0 (l.length + 2999) t [] (by omega) (by omega) (by simp)
  rw [hw.1]
  simp only [Option.bind_some]
  rw [hw.2]
  simp only [Option.bind_some, if_true, bne_self_eq_false]
  simp only [laws_FnExactWordOfRuns.j0]
  rw [if_neg (by decide), hk _ (by omega)]
  simp only [Option.bind_some]
  rw [eqIntS_same r (by omega) _ (by omega)]
  rfl
end Go.Proofs.Ytpelhinjoambfaa.Pure
