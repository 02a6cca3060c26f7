/- A text is set among texts in order, by the reference: for all lists of at most 1000000 texts. -/
import Derived.Test.YtpfahibbmkcnoaaDoorXE4
import Derived.Test.YtpfahibbmkcnoaaDoorB
import Derived.Test.YtpfahibbmkcnoaaDoorSrts
namespace Go.Proofs.YtpfahibbmkcnoaaDoor.XE
set_option linter.unusedVariables false
set_option linter.unusedSimpArgs false
open Go Go.RowKit Go.Proofs.YtpfahibbmkcnoaaDoorW.PrintWords Go.Proofs.YtpfahibbmkcnoaaDoorB Go.Proofs.YtpfahibbmkcnoaaDoor.Srts

theorem tl_eq {x y : ByteArray} : x.toList = y.toList ↔ x = y := ⟨tl_inj, fun h => by rw [h]⟩
theorem rdOf_get {l : List ByteArray} {i : Nat} (h : i < l.length) : l[i]? = some (rdOf ByteArray.empty l (i : Int)) := by
  unfold rdOf
  rw [Int.toNat_natCast, List.getD_eq_getElem?_getD, List.getElem?_eq_getElem h]
  rfl
theorem reAdd_l0 {F : List ByteArray} (hF : F.length ≤ 1000000) (hs : Srt F) (y : ByteArray) : ∀ (m lo hi k : Nat), hi - lo ≤ m → m < k → lo ≤ hi → hi ≤ F.length →
    (∀ j x, F[j]? = some x → j < lo → lsB x y = true) → (∀ j x, F[j]? = some x → hi ≤ j → lsB x y = false) →
    (y ∈ F ∧ spec_reAdd.l0 k F y (lo : Int) (hi : Int) = some F) ∨ (y ∉ F ∧ ∃ r, spec_reAdd.l0 k F y (lo : Int) (hi : Int) = some r ∧ r.length = F.length + 1 ∧ Srt r ∧ ∀ x, x ∈ r ↔ x = y ∨ x ∈ F) := by
  have hp := List.pairwise_iff_getElem.1 hs
  intro m
  induction m with
  | zero =>
    intro lo hi k h1 hk h2 h3 H1 H2
    obtain ⟨k, rfl⟩ : ∃ q, k = q + 1 := ⟨k - 1, by omega⟩
    obtain rfl : hi = lo := by omega
    simp only [spec_reAdd.l0]
    rw [if_neg (by omega)]
    have e1 : (F.take hi).length = hi := by rw [List.length_take]; omega
    have e2 : (F.drop hi).length = F.length - hi := List.length_drop
    by_cases hlt : hi < F.length
    · rw [if_pos (by omega), if_pos (by omega)]
      have hg := rdOf_get hlt
      by_cases hy : rdOf ByteArray.empty F (hi : Int) = y
      · rw [if_pos (tl_eq.2 hy)]
        exact .inl ⟨List.mem_of_getElem? (hy ▸ hg), rfl⟩
      · rw [if_neg (fun h => hy (tl_eq.1 h))]
        obtain ⟨hno, hsr, hmm⟩ := ins_srt hs H1 H2 (by rw [hg]; intro e; exact hy (Option.some.inj e))
        refine .inr ⟨hno, F.take hi ++ [y] ++ F.drop hi, ?_, ?_, hsr, hmm⟩
        · simp only [Option.bind_some, List.nil_append, Int.toNat_natCast]
          rw [if_pos (by omega), if_pos (by simp only [List.length_nil]; omega), if_pos (by omega), if_pos (by rw [List.length_append, List.length_singleton]; omega)]
        · rw [List.length_append, List.length_append, List.length_singleton]; omega
    · rw [if_neg (by omega)]
      obtain ⟨hno, hsr, hmm⟩ := ins_srt hs H1 H2 (by rw [List.getElem?_eq_none (by omega)]; intro e; cases e)
      refine .inr ⟨hno, F.take hi ++ [y] ++ F.drop hi, ?_, ?_, hsr, hmm⟩
      · simp only [Option.bind_some, List.nil_append, Int.toNat_natCast]
        rw [if_pos (by omega), if_pos (by omega), if_pos (by simp only [List.length_nil]; omega), if_pos (by omega), if_pos (by rw [List.length_append, List.length_singleton]; omega)]
      · rw [List.length_append, List.length_append, List.length_singleton]; omega
  | succ m ih =>
    intro lo hi k h1 hk h2 h3 H1 H2
    by_cases hlt : lo < hi
    case neg =>
      exact ih lo hi k (by omega) (by omega) h2 h3 H1 H2
    obtain ⟨k, rfl⟩ : ∃ q, k = q + 1 := ⟨k - 1, by omega⟩
    have hq : wrap64 (Int.tdiv (wrap64 ((lo : Int) + (hi : Int))) 2) = (((lo + hi) / 2 : Nat) : Int) := by
      rw [w64 (x := (lo : Int) + (hi : Int)) (by omega) (by omega), Int.tdiv_eq_ediv_of_nonneg (by omega), w64 (by omega) (by omega)]
      omega
    obtain ⟨q, hq'⟩ : ∃ q : Nat, q = (lo + hi) / 2 := ⟨_, rfl⟩
    rw [← hq'] at hq
    simp only [spec_reAdd.l0]
    rw [if_pos (by omega), hq, if_pos (by omega), if_pos (by omega)]
    have hg := rdOf_get (l := F) (i := q) (by omega)
    obtain ⟨hql, hqe⟩ := List.getElem?_eq_some_iff.1 hg
    have hw : wrap64 ((q : Int) + 1) = ((q + 1 : Nat) : Int) := by rw [w64 (by omega) (by omega)]; rfl
    cases hz : lsB (rdOf ByteArray.empty F (q : Int)) y with
    | true =>
      rw [if_pos (show Op.bytesLess _ _ = true from hz), hw]
      refine ih (q + 1) hi k (by omega) (by omega) (by omega) h3 (fun j x hj hlj => ?_) H2
      obtain ⟨hjl, hje⟩ := List.getElem?_eq_some_iff.1 hj
      rcases Nat.lt_or_ge j q with g | g
      · have h4 := hp j q hjl hql g
        rw [hje, hqe] at h4
        exact lsB_trans h4 hz
      · obtain rfl : j = q := by omega
        rw [hj] at hg
        cases hg
        exact hz
    | false =>
      rw [if_neg (fun h => by have : lsB _ y = true := h; rw [hz] at this; cases this)]
      refine ih lo q k (by omega) (by omega) (by omega) (by omega) H1 (fun j x hj hlj => ?_)
      obtain ⟨hjl, hje⟩ := List.getElem?_eq_some_iff.1 hj
      rcases Nat.lt_or_ge q j with g | g
      · have h4 := hp q j hql hjl g
        rw [hje, hqe] at h4
        cases hxy : lsB x y with
        | false => rfl
        | true => rw [lsB_trans h4 hxy] at hz; cases hz
      · obtain rfl : j = q := by omega
        rw [hj] at hg
        cases hg
        exact hz
theorem reAdd_eq {F : List ByteArray} (hF : F.length ≤ 1000000) (hs : Srt F) (y : ByteArray) (k : Nat) (hk : F.length < k) :
    (y ∈ F ∧ spec_reAdd.f k F y = some F) ∨ (y ∉ F ∧ ∃ r, spec_reAdd.f k F y = some r ∧ r.length = F.length + 1 ∧ Srt r ∧ ∀ x, x ∈ r ↔ x = y ∨ x ∈ F) :=
  reAdd_l0 hF hs y F.length 0 F.length k (by omega) hk (Nat.zero_le _) (Nat.le_refl _) (fun j x _ h => by omega) (fun j x h h' => by have := (List.getElem?_eq_some_iff.1 h).1; omega)
end Go.Proofs.YtpfahibbmkcnoaaDoor.XE
