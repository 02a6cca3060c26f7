/- FnExactFewestToExchange without Go: for all numbers and all rules, the program's FewestToExchange is the reference's. -/
import Derived.Test.YtjgijaocinpkhaaDoorI2LIall
import Derived.Test.YtjgijaocinpkhaaDoorI2XI1
import Derived.Test.YtjgijaocinpkhaaDoorI2XI6
import Derived.Test.YtjgijaocinpkhaaDoorI2XI8
import Derived.Test.YtjgijaocinpkhaaDoorI2XI9
namespace Go.Proofs.YtjgijaocinpkhaaDoor.Pure
set_option linter.unusedVariables false
set_option linter.unusedSimpArgs false
open Go Go.RowKit Go.Proofs.YtjgijaocinpkhaaDoorW.PrintWords Go.Proofs.YtjgijaocinpkhaaDoor.XI Go.Proofs.YtjgijaocinpkhaaDoorB Go.Proofs.YtjgijaocinpkhaaDoor.Pm Go.Proofs.YtjgijaocinpkhaaDoor.Srts
theorem three_line (c d : UInt8) (hc : sgn c = true) (hd : sgn d = true) (l m n : Nat) (h1 : 1 ≤ l + m + n) (h8 : l + m + n ≤ 8) : isLine 10 (three c l m d n) = true := by
  unfold isLine
  rw [three_size, three_list, List.all_append, List.all_append]
  simp only [List.all_replicate, hc, hd, show sgn 46 = true from rfl, decide_eq_true (show 1 ≤ l + m + n from h1), decide_eq_true (show l + m + n ≤ 10 by omega)]
  simp
theorem FnExactFewestToExchange (x y z : Int) (o b l : Bool) (hx : (Lit.int .i64 x).wf = true) (hy : (Lit.int .i64 y).wf = true) (hz : (Lit.int .i64 z).wf = true) : ∃ k, laws_FnExactFewestToExchange.f k x y z o b l = some true := by
  refine ⟨100000, ?_⟩
  have hr : ∃ r : Int × Bool, spec_FewestToExchange.f 100000 x y z o b l = some r ∧ impl_FewestToExchange.f x y z o b l = some r := by
    unfold spec_FewestToExchange.f spec_ruThree.f impl_FewestToExchange.f
    rw [spec_three3 x y z 100000 (by omega), impl_three3]
    simp only [Option.bind_some]
    have h88 : threeB 8 x y z = (threeB 12 x y z && decide (wrap64 (wrap64 (x + y) + z) ≤ 8)) := by
      by_cases h : threeB 12 x y z = true
      · obtain ⟨t, g, f, rfl, rfl, rfl, h1, h2⟩ := threeB_is (by decide) h
        have hw : wrap64 (wrap64 ((t : Int) + (g : Int)) + (f : Int)) = (t : Int) + g + f := by unfold wrap64; omega
        rw [h, Bool.true_and, hw]
        unfold threeB
        rw [hw, Bool.eq_iff_iff]
        simp only [Bool.and_eq_true, decide_eq_true_eq]
        omega
      · have h' : threeB 12 x y z = false := Bool.eq_false_iff.2 h
        rw [h', Bool.false_and, Bool.eq_false_iff]
        intro h8
        apply h
        unfold threeB at h8 ⊢
        simp only [Bool.and_eq_true, decide_eq_true_eq] at h8 ⊢
        omega
    rw [h88]
    by_cases h : threeB 12 x y z = true
    · rw [if_pos h, h, Bool.true_and]
      simp only [Option.bind_some]
      by_cases h8 : wrap64 (wrap64 (x + y) + z) ≤ 8
      · rw [decide_eq_true h8]
        obtain ⟨t, g, f, rfl, rfl, rfl, h1, _⟩ := threeB_is (by decide) h
        have hw : wrap64 (wrap64 ((t : Int) + (g : Int)) + (f : Int)) = (t : Int) + g + f := by unfold wrap64; omega
        rw [hw] at h8
        simp only [if_true]
        have hf : spec_liFirst.f 100000 (t : Int) (g : Int) (f : Int) = some (three 84 t g 70 f) := by
          unfold spec_liFirst.f three
          rw [liTimes_eq 84 t 100000 (by omega) (by omega), liTimes_eq 46 g 100000 (by omega) (by omega), liTimes_eq 70 f 100000 (by omega) (by omega)]
          simp only [Option.bind_some]
          rw [if_pos (by rw [reps_size, reps_size]; omega), if_pos (by rw [size_append, reps_size, reps_size, reps_size]; omega)]
        have hg : impl_first.f (t : Int) (g : Int) (f : Int) = some (three 84 t g 70 f) := by
          unfold impl_first.f impl_ordered.f three
          rw [show Utf8.encode 84 = (⟨#[84]⟩ : ByteArray) from by decide, show Utf8.encode 70 = (⟨#[70]⟩ : ByteArray) from by decide, repeat_eq 84 t (by omega), repeat_eq 46 g (by omega), repeat_eq 70 f (by omega)]
          simp only [Option.bind_some]
          rw [if_pos (by rw [reps_size, reps_size]; omega), if_pos (by rw [size_append, reps_size, reps_size, reps_size]; omega)]
          rfl
        rw [hf, hg]
        simp only [Option.bind_some]
        have hsz : (three 84 t g 70 f).size = t + g + f := three_size _ _ _ _ _
        have hall := counts_size (three 84 t g 70 f).data.toList (by
          have := three_line 84 70 rfl rfl t g f h1 (by omega)
          exact (isLine_size this).2.2)
        rw [data_length, hsz] at hall
        rw [liLast_eq _ (by omega) 100000 (by omega), impl_last_eq _ (by omega)]
        simp only [Option.bind_some]
        have hlast := three_line 70 84 rfl rfl _ _ _ (show 1 ≤ (three 84 t g 70 f).data.toList.count 70 + (three 84 t g 70 f).data.toList.count 46 + (three 84 t g 70 f).data.toList.count 84 by omega) (by omega)
        obtain ⟨r, r1, r2⟩ := shortest_both (a := three 84 t g 70 f) (v := three 70 ((three 84 t g 70 f).data.toList.count 70) ((three 84 t g 70 f).data.toList.count 46) 84 ((three 84 t g 70 f).data.toList.count 84)) (by omega) (by rw [three_size]; omega) (three_line 84 70 rfl rfl t g f h1 (by omega)) hlast o b l 100000 (by omega)
        rw [r1, r2]
        exact ⟨_, rfl, rfl⟩
      · rw [decide_eq_false h8]
        exact ⟨_, rfl, rfl⟩
    · rw [if_neg h, Bool.eq_false_iff.2 h]
      exact ⟨_, rfl, rfl⟩
  obtain ⟨r, h1, h2⟩ := hr
  unfold laws_FnExactFewestToExchange.f
  rw [show laws_toRule.f o b l = some (o, b, l) from rfl]
  simp only [Option.bind_some]
  rw [h1, h2]
  simp
end Go.Proofs.YtjgijaocinpkhaaDoor.Pure
