/- The laws' own marks on a list of texts: what was returned is marked, and the marks are found again; a list of texts is itself. For all lists of at most 100000 texts. -/
import Derived.Test.YtpfahibbmkcnoaaDoorXE1
import Derived.Test.YtpfahibbmkcnoaaDoorXE8
import Derived.Test.YtpfahibbmkcnoaaDoorB
namespace Go.Proofs.YtpfahibbmkcnoaaDoor.XE
set_option linter.unusedVariables false
set_option linter.unusedSimpArgs false
open Go Go.RowKit Go.Proofs.YtpfahibbmkcnoaaDoorW.PrintWords Go.Proofs.YtpfahibbmkcnoaaDoorB

theorem markText_l0 : ∀ (d : Nat) (n : Nat) (s : ByteArray), n < 10 ^ d → s.size + d ≤ 1000 → n ≤ 1000000000 → ∃ t, ∀ k, d < k → laws_markText.l0 k (n : Int) s = some t := by
  intro d
  induction d with
  | zero =>
    intro n s hn hs _
    refine ⟨(⟨#[109]⟩ : ByteArray) ++ s, fun k hk => ?_⟩
    obtain ⟨k, rfl⟩ : ∃ m, k = m + 1 := ⟨k - 1, by omega⟩
    rw [laws_markText.l0, if_neg (by omega), if_pos (by omega)]
  | succ d ih =>
    intro n s hn hs hb
    by_cases h0 : n = 0
    · subst h0
      refine ⟨(⟨#[109]⟩ : ByteArray) ++ s, fun k hk => ?_⟩
      obtain ⟨k, rfl⟩ : ∃ m, k = m + 1 := ⟨k - 1, by omega⟩
      rw [laws_markText.l0, if_neg (by decide), if_pos (by omega)]
    · have hsz : ∀ z : Int, (strOfNums [z]).size = 1 := fun z => rfl
      obtain ⟨t, ht⟩ := ih (n / 10) (strOfNums [(wrap64 (48 + (Int.tmod (n : Int) 10))) % 256] ++ s) (by rw [Nat.pow_succ] at hn; omega) (by rw [ByteArray.size_append, hsz]; omega) (by omega)
      refine ⟨t, fun k hk => ?_⟩
      obtain ⟨k, rfl⟩ : ∃ m, k = m + 1 := ⟨k - 1, by omega⟩
      have hq : wrap64 (Int.tdiv (n : Int) 10) = ((n / 10 : Nat) : Int) := by rw [Int.tdiv_eq_ediv_of_nonneg (by omega), w64 (by omega) (by omega)]; omega
      rw [laws_markText.l0, if_pos (by omega)]
      simp only [Option.bind_some]
      rw [if_pos (by rw [hsz]; omega), hq]
      exact ht k (by omega)
theorem markText_some (n : Nat) (hn : n ≤ 200000) : ∃ t, ∀ k, 10 ≤ k → laws_markText.f k (n : Int) = some t := by
  obtain ⟨t, ht⟩ := markText_l0 6 n ⟨#[]⟩ (by omega) (by decide) (by omega)
  by_cases h0 : n = 0
  · subst h0
    exact ⟨_, fun k _ => by unfold laws_markText.f; rw [if_pos (by decide)]⟩
  · exact ⟨t, fun k hk => by unfold laws_markText.f; rw [if_neg (by omega)]; exact ht k (by omega)⟩
def markT (n : Nat) : ByteArray := (laws_markText.f 10 (n : Int)).getD ⟨#[]⟩
theorem markText_eq (n : Nat) (hn : n ≤ 200000) (k : Nat) (hk : 10 ≤ k) : laws_markText.f k (n : Int) = some (markT n) := by
  obtain ⟨t, ht⟩ := markText_some n hn
  unfold markT
  rw [ht k hk, ht 10 (by omega)]
  rfl
theorem rdS_set (l : List ByteArray) (i j : Nat) (v : ByteArray) (hi : i < l.length) : rdOf ByteArray.empty (l.set i v) (j : Int) = if j = i then v else rdOf ByteArray.empty l (j : Int) := by
  unfold rdOf
  rw [Int.toNat_natCast, List.getD_eq_getElem?_getD, List.getD_eq_getElem?_getD, List.getElem?_set]
  by_cases h : j = i
  · subst h
    simp [hi]
  · rw [if_neg (fun e => h e.symm), if_neg h]
theorem markStringS_l0 (n : Nat) (hs : n ≤ 100000) : ∀ (d i k : Nat) (l : List ByteArray), l.length = n → i + d = n → d + 20 < k → (∀ j : Nat, j < i → rdOf ByteArray.empty l (j : Int) = markT (j + 1)) →
    ∃ y, laws_markStringS.l0 k l ((i + 1 : Nat) : Int) (i : Int) = some (((n + 1 : Nat) : Int), y) ∧ y.length = n ∧ ∀ j : Nat, j < n → rdOf ByteArray.empty y (j : Int) = markT (j + 1) := by
  intro d
  induction d with
  | zero =>
    intro i k l hl hi hk h
    obtain ⟨k, rfl⟩ : ∃ m, k = m + 1 := ⟨k - 1, by omega⟩
    obtain rfl : i = n := by omega
    rw [laws_markStringS.l0, if_neg (by omega)]
    exact ⟨l, rfl, hl, h⟩
  | succ d ih =>
    intro i k l hl hi hk h
    obtain ⟨k, rfl⟩ : ∃ m, k = m + 1 := ⟨k - 1, by omega⟩
    rw [laws_markStringS.l0, if_pos (by omega), markText_eq (i + 1) (by omega) k (by omega)]
    simp only [Option.bind_some]
    rw [if_pos (by omega), Int.toNat_natCast, w64_succ (i := i + 1) (n := n + 1) (by omega) (by omega), w64_succ (i := i) (n := n) (by omega) (by omega)]
    exact ih (i + 1) k (l.set i (markT (i + 1))) (by rw [List.length_set]; exact hl) (by omega) (by omega) fun j hj => by
      rw [rdS_set l i j _ (by omega)]
      by_cases e : j = i
      · rw [if_pos e, e]
      · rw [if_neg e]
        exact h j (by omega)
theorem markStringS_eq (l : List ByteArray) (hs : l.length ≤ 100000) (k : Nat) (hk : l.length + 20 < k) : ∃ y, laws_markStringS.f k l 1 = some (((l.length + 1 : Nat) : Int), y) ∧ y.length = l.length ∧ ∀ j : Nat, j < l.length → rdOf ByteArray.empty y (j : Int) = markT (j + 1) :=
  markStringS_l0 l.length hs l.length 0 k l rfl (by omega) hk (fun j hj => by omega)
theorem heldStringS_l0 (y : List ByteArray) (hs : y.length ≤ 100000) (h : ∀ j : Nat, j < y.length → rdOf ByteArray.empty y (j : Int) = markT (j + 1)) : ∀ (d i k : Nat), i + d = y.length → d + 20 < k → laws_heldStringS.l0 k y ((i + 1 : Nat) : Int) (i : Int) = some ((y.length + 1 : Nat) : Int) := by
  intro d
  induction d with
  | zero =>
    intro i k hi hk
    obtain ⟨k, rfl⟩ : ∃ m, k = m + 1 := ⟨k - 1, by omega⟩
    obtain rfl : i = y.length := by omega
    rw [laws_heldStringS.l0, if_neg (by omega)]
  | succ d ih =>
    intro i k hi hk
    obtain ⟨k, rfl⟩ : ∃ m, k = m + 1 := ⟨k - 1, by omega⟩
    rw [laws_heldStringS.l0, if_pos (by omega), if_pos (by omega), markText_eq (i + 1) (by omega) k (by omega)]
    simp only [Option.bind_some]
    rw [h i (by omega), if_pos rfl, w64_succ (i := i + 1) (n := y.length + 1) (by omega) (by omega), w64_succ (i := i) (n := y.length) (by omega) (by omega)]
    exact ih (i + 1) k (by omega) (by omega)
theorem heldStringS_eq (y : List ByteArray) (hs : y.length ≤ 100000) (h : ∀ j : Nat, j < y.length → rdOf ByteArray.empty y (j : Int) = markT (j + 1)) (k : Nat) (hk : y.length + 20 < k) : laws_heldStringS.f k y 1 = some ((y.length + 1 : Nat) : Int) :=
  heldStringS_l0 y hs h y.length 0 k (by omega) hk
theorem eqStringS_l0 (l : List ByteArray) (hs : l.length ≤ 10000000) : ∀ (d i k : Nat), i + d = l.length → d < k → laws_eqStringS.l0 k l l (i : Int) = some true := by
  intro d
  induction d with
  | zero =>
    intro i k hi hk
    obtain ⟨k, rfl⟩ : ∃ m, k = m + 1 := ⟨k - 1, by omega⟩
    rw [laws_eqStringS.l0, if_neg (by omega)]
  | succ d ih =>
    intro i k hi hk
    obtain ⟨k, rfl⟩ : ∃ m, k = m + 1 := ⟨k - 1, by omega⟩
    rw [laws_eqStringS.l0, if_pos (by omega), if_pos (by omega), if_pos (by omega), if_pos rfl, w64_succ (n := l.length) (by omega) (by omega)]
    exact ih (i + 1) k (by omega) (by omega)
theorem eqStringS_same (l : List ByteArray) (hs : l.length ≤ 10000000) (k : Nat) (hk : l.length < k) : laws_eqStringS.f k l l = some true := by
  unfold laws_eqStringS.f
  rw [if_pos rfl]
  exact eqStringS_l0 l hs l.length 0 k (by omega) hk
end Go.Proofs.YtpfahibbmkcnoaaDoor.XE
