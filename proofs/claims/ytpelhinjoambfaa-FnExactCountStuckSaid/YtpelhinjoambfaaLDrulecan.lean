/- Which moves a rule allows, for the reference: for all lines of 1 to 100 signs, all rules and all pairs of numbers. -/
import Derived.Test.YtpelhinjoambfaaXD3
import Derived.Test.YtpelhinjoambfaaXD6
import Derived.Test.YtpelhinjoambfaaLDrule
namespace Go.Proofs.Ytpelhinjoambfaa.XD
set_option linter.unusedVariables false
set_option linter.unusedSimpArgs false
open Go Go.RowKit Go.Proofs.YtpelhinjoambfaaW.PrintWords Go.Proofs.YtpelhinjoambfaaB

/-- where the stone of a place goes in a direction, if it can -/
def bgo (a : ByteArray) (o b l : Bool) (i : Nat) (d : Int) : Option Int :=
  if (bt a (i : Int) = 84 ∨ bt a (i : Int) = 70) ∧ ((bt a (i : Int) = 84 ↔ d = 1) ∨ b = true) then (match impl_goalBy.f 200 a (i : Int) d o b l with | some (t, true) => some t | _ => none) else none
theorem jmp_46 {o : Bool} {c : Int} (hc : c = 84 ∨ c = 70) : jmp o c 46 = false := by
  unfold jmp oth
  rcases hc with rfl | rfl <;> cases o <;> decide
theorem bgo_iff (a : ByteArray) (hs : a.size ≤ 100) (o b l : Bool) (i : Nat) (hi : i < a.size) (d : Int) (hd : d = 1 ∨ d = -1) (t : Int) :
    bgo a o b l i d = some t ↔ (bt a (i : Int) = 84 ∨ bt a (i : Int) = 70) ∧ ((bt a (i : Int) = 84 ↔ d = 1) ∨ b = true) ∧ ∃ m : Nat, 1 ≤ m ∧ t = (i : Int) + d * (m : Int) ∧ (∀ j : Nat, 1 ≤ j → j < m → jmp o (bt a i) (sg a ((i : Int) + d * (j : Int))) = true) ∧ sg a t = 46 ∧ (m ≤ 2 ∨ l = true) := by
  unfold bgo
  by_cases h : (bt a (i : Int) = 84 ∨ bt a (i : Int) = 70) ∧ ((bt a (i : Int) = 84 ↔ d = 1) ∨ b = true)
  case neg =>
    rw [if_neg h]
    exact ⟨(fun h1 => nomatch h1), fun h1 => absurd ⟨h1.1, h1.2.1⟩ h⟩
  rw [if_pos h]
  obtain ⟨M, h1, h2, h3, h4, h5⟩ := goalBy_eq a hs i hi h.1 d hd o b l
  rw [h5 200 (by omega)]
  constructor
  · intro h6
    by_cases q : sg a ((i : Int) + d * (M : Int)) = 46 ∧ (M ≤ 2 ∨ l = true)
    · rw [decide_eq_true q] at h6
      simp only [Option.some.injEq] at h6
      subst h6
      exact ⟨h.1, h.2, M, h1, rfl, h3, q.1, q.2⟩
    · rw [decide_eq_false q] at h6
      cases h6
  · rintro ⟨_, _, m, m1, rfl, m3, m4, m5⟩
    have e : m = M := by
      rcases Nat.lt_trichotomy m M with g | g | g
      · have := h3 m m1 g
        rw [m4, jmp_46 h.1] at this
        cases this
      · exact g
      · have := m3 M h1 g
        rw [h4] at this
        cases this
    subst e
    rw [decide_eq_true ⟨m4, m5⟩]
def bcan (a : ByteArray) (o b l : Bool) (f t : Int) : Bool := decide (0 ≤ f ∧ f < (a.size : Int)) && (bgo a o b l f.toNat (-1) == some t || bgo a o b l f.toNat 1 == some t)
def allJ (a : ByteArray) (o : Bool) (i : Nat) (d : Int) : Nat → Nat → Bool
  | 0, _ => true
  | e + 1, m => jmp o (bt a i) (sg a ((i : Int) + d * (m : Int))) && allJ a o i d e (m + 1)
theorem allJ_iff (a : ByteArray) (o : Bool) (i : Nat) (d : Int) : ∀ (e m : Nat), allJ a o i d e m = true ↔ ∀ j : Nat, m ≤ j → j < m + e → jmp o (bt a i) (sg a ((i : Int) + d * (j : Int))) = true
  | 0, m => by
    refine ⟨fun _ j h1 h2 => by omega, fun _ => rfl⟩
  | e + 1, m => by
    rw [allJ, Bool.and_eq_true, allJ_iff a o i d e (m + 1)]
    constructor
    · rintro ⟨h1, h2⟩ j g1 g2
      by_cases q : j = m
      · subst q; exact h1
      · exact h2 j (by omega) (by omega)
    · intro h
      exact ⟨h m (by omega) (by omega), fun j g1 g2 => h j (by omega) (by omega)⟩
theorem sgn_three {a : ByteArray} (h : a.data.toList.all sgn = true) {i : Int} (h0 : 0 ≤ i) (h1 : i < (a.size : Int)) : bt a i = 84 ∨ bt a i = 70 ∨ bt a i = 46 := by
  obtain ⟨n, rfl⟩ : ∃ n : Nat, i = (n : Int) := ⟨i.toNat, by omega⟩
  obtain ⟨c, hd, hb⟩ := bt_eq a n (by omega)
  have hc : c ∈ a.data.toList := List.mem_of_mem_drop (by rw [hd]; exact List.mem_cons_self)
  have h2 := List.all_eq_true.1 h c hc
  unfold sgn at h2
  simp only [Bool.or_eq_true, beq_iff_eq] at h2
  rw [hb]
  rcases h2 with (rfl | rfl) | rfl <;> decide
theorem jmp_sgn {o : Bool} {c x : Int} (hc : c = 84 ∨ c = 70) (hx : x = 84 ∨ x = 70 ∨ x = 46) : jmp o c x = if x = 46 then false else if x = c then o else true := by
  unfold jmp oth
  rcases hc with rfl | rfl <;> rcases hx with rfl | rfl | rfl <;> cases o <;> decide
theorem wd1 {d : Int} (hd : d = 1 ∨ d = -1) {m : Nat} (hm : m ≤ 100) : wrap64 ((m : Int) * d) = d * (m : Int) := by rcases hd with rfl | rfl <;> (rw [w64 (by omega) (by omega)]; omega)
theorem wd2 {d : Int} (hd : d = 1 ∨ d = -1) {m i : Nat} (hm : m ≤ 100) (hi : i ≤ 100) : wrap64 ((i : Int) + d * (m : Int)) = (i : Int) + d * (m : Int) := by rcases hd with rfl | rfl <;> exact w64 (by omega) (by omega)
theorem wd3 {m : Nat} (hm : m ≤ 100) : wrap64 ((m : Int) + 1) = ((m + 1 : Nat) : Int) := by rw [w64 (by omega) (by omega)]; rfl
theorem ruCan_l0 (a : ByteArray) (hs : a.size ≤ 100) (hl : a.data.toList.all sgn = true) (i : Nat) (hi : i < a.size) (hc : bt a (i : Int) = 84 ∨ bt a (i : Int) = 70) (d : Int) (hd : d = 1 ∨ d = -1) (n : Nat) (t : Int) (ht : t = (i : Int) + d * (n : Int)) (t0 : 0 ≤ t) (t1 : t < (a.size : Int)) (o b l : Bool) :
    ∀ (e m k : Nat), 1 ≤ m → m + e = n → e < k → spec_ruCan.l0 k a d (n : Int) (m : Int) (i : Int) t o b l = some (allJ a o i d e m) := by
  intro e
  induction e with
  | zero =>
    intro m k h1 hm hk
    obtain ⟨k, rfl⟩ : ∃ q, k = q + 1 := ⟨k - 1, by omega⟩
    simp only [spec_ruCan.l0]
    rw [if_neg (by omega), allJ]
  | succ e ih =>
    intro m k h1 hm hk
    obtain ⟨k, rfl⟩ : ∃ q, k = q + 1 := ⟨k - 1, by omega⟩
    have hn : n ≤ 100 := by rcases hd with rfl | rfl <;> omega
    have g0 : 0 ≤ (i : Int) + d * (m : Int) := by rcases hd with rfl | rfl <;> omega
    have g1 : (i : Int) + d * (m : Int) < (a.size : Int) := by rcases hd with rfl | rfl <;> omega
    have step := ih (m + 1) k (by omega) (by omega) (by omega)
    have g2 := sgn_three hl g0 g1
    have z0 : (m : Int) < (n : Int) := by omega
    have z1 : (0 : Int) ≤ (i : Int) := by omega
    have z2 : (i : Int) < (a.size : Int) := by omega
    have m1 : m ≤ 100 := by omega
    have i1 : i ≤ 100 := by omega
    have w1 := wd1 hd m1
    have w2 := wd2 hd m1 i1
    have w3 := wd3 m1
    simp only [spec_ruCan.l0]
    rw [w1, w2, w3, if_pos z0, if_pos g0, if_pos g1, allJ, sg_in g0 g1, jmp_sgn hc g2]
    by_cases q1 : bt a ((i : Int) + d * (m : Int)) = 46
    · rw [if_pos q1, if_pos q1, Bool.false_and]
    · rw [if_neg q1, if_neg q1, if_pos z1, if_pos z2]
      by_cases q2 : bt a ((i : Int) + d * (m : Int)) = bt a (i : Int)
      · rw [if_pos q2, if_pos q2]
        cases o with
        | true => rw [if_pos rfl, step, Bool.true_and]
        | false => rw [if_neg (by decide), Bool.false_and]
      · rw [if_neg q2, if_neg q2, step, Bool.true_and]
theorem ruCan_dir (a : ByteArray) (hs : a.size ≤ 100) (hl : a.data.toList.all sgn = true) (i : Nat) (hi : i < a.size) (hc : bt a (i : Int) = 84 ∨ bt a (i : Int) = 70) (d : Int) (hd : d = 1 ∨ d = -1) (n : Nat) (hn : 1 ≤ n) (t : Int) (ht : t = (i : Int) + d * (n : Int)) (t0 : 0 ≤ t) (t1 : t < (a.size : Int)) (h46 : bt a t = 46) (o b l : Bool) (k : Nat) (hk : 110 ≤ k) :
    spec_ruCan.j1 k a d (i : Int) t o b l = some (bgo a o b l i d == some t) := by
  obtain ⟨k, rfl⟩ : ∃ q, k = q + 3 := ⟨k - 3, by omega⟩
  have hn2 : n ≤ 100 := by rcases hd with rfl | rfl <;> omega
  have w1 : wrap64 (wrap64 (t - (i : Int)) * d) = (n : Int) := by subst ht; rcases hd with rfl | rfl <;> (rw [w64 (x := _ - _) (by omega) (by omega), w64 (by omega) (by omega)]; omega)
  have z1 : (0 : Int) ≤ (i : Int) := by omega
  have z2 : (i : Int) < (a.size : Int) := by omega
  have loop := ruCan_l0 a hs hl i hi hc d hd n t ht t0 t1 o b l (n - 1) 1 k (by omega) (by omega) (by omega)
  have loop : spec_ruCan.l0 k a d (n : Int) 1 (i : Int) t o b l = some (allJ a o i d (n - 1) 1) := loop
  have hbg : (bgo a o b l i d == some t) = ((decide (bt a (i : Int) = 84 ↔ d = 1) || b) && ((decide (n ≤ 2) || l) && allJ a o i d (n - 1) 1)) := by
    rw [Bool.eq_iff_iff, beq_iff_eq, bgo_iff a hs o b l i hi d hd t, Bool.and_eq_true, Bool.and_eq_true, Bool.or_eq_true, Bool.or_eq_true, decide_eq_true_eq, decide_eq_true_eq, allJ_iff]
    constructor
    · rintro ⟨_, h2, m, m1, m2, m3, _, m5⟩
      have e : m = n := by subst ht; rcases hd with rfl | rfl <;> omega
      subst e
      exact ⟨h2, m5, fun j g1 g2 => m3 j g1 (by omega)⟩
    · rintro ⟨h2, h5, h3⟩
      exact ⟨hc, h2, n, hn, ht, fun j g1 g2 => h3 j g1 (by omega), (sg_in t0 t1).trans h46, h5⟩
  have hcond : ((bt a (i : Int) == 84) != decide (d > 0)) = !decide (bt a (i : Int) = 84 ↔ d = 1) := by
    rcases hc with h | h <;> rcases hd with rfl | rfl <;> simp [h]
  rw [hbg]
  simp only [spec_ruCan.j1, spec_ruCan.j2, spec_ruCan.j3]
  rw [if_pos z1, if_pos z2, hcond, w1, loop]
  have hgt : ((n : Int) > 2) ↔ ¬ n ≤ 2 := by omega
  generalize allJ a o i d (n - 1) 1 = A
  by_cases q2 : n ≤ 2
  · rw [if_neg (fun h => hgt.1 h q2), decide_eq_true q2]
    cases decide (bt a (i : Int) = 84 ↔ d = 1) <;> cases b <;> cases l <;> cases A <;> rfl
  · rw [if_pos (hgt.2 q2), decide_eq_false q2]
    cases decide (bt a (i : Int) = 84 ↔ d = 1) <;> cases b <;> cases l <;> cases A <;> rfl
theorem bgo_in {a : ByteArray} (hs : a.size ≤ 100) {o b l : Bool} {i : Nat} (hi : i < a.size) {d : Int} (hd : d = 1 ∨ d = -1) {t : Int} (h : bgo a o b l i d = some t) : 0 ≤ t ∧ t < (a.size : Int) ∧ bt a t = 46 ∧ (bt a (i : Int) = 84 ∨ bt a (i : Int) = 70) ∧ (d = 1 → (i : Int) < t) ∧ (d = -1 → t < (i : Int)) := by
  obtain ⟨h1, _, m, m1, m2, _, m4, _⟩ := (bgo_iff a hs o b l i hi d hd t).1 h
  obtain ⟨g0, g1, g2⟩ := sg_is m4 (by decide)
  exact ⟨g0, g1, g2, h1, fun e => by subst e; omega, fun e => by subst e; omega⟩
theorem ruCan_eq (a : ByteArray) (hs1 : 1 ≤ a.size) (hs : a.size ≤ 10) (hl : a.data.toList.all sgn = true) (f t : Int) (o b l : Bool) (k : Nat) (hk : 120 ≤ k) : spec_ruCan.f k a f t o b l = some (bcan a o b l f t) := by
  obtain ⟨k, rfl⟩ : ∃ m, k = m + 1 := ⟨k - 1, by omega⟩
  unfold spec_ruCan.f
  have e : wrap64 ((a.size : Int) - 1) = (a.size : Int) - 1 := w64 (by omega) (by omega)
  rw [e, l1In_eq, l1In_eq]
  simp only [Option.bind_some, spec_ruCan.j0]
  by_cases hf : 0 ≤ f ∧ f ≤ (a.size : Int) - 1
  case neg =>
    unfold bcan
    rw [if_neg (by simp; omega), if_pos trivial, decide_eq_false (fun h => hf ⟨h.1, by omega⟩), Bool.false_and]
  obtain ⟨i, rfl⟩ : ∃ i : Nat, f = (i : Int) := ⟨f.toNat, by omega⟩
  have hi : i < a.size := by omega
  have f1 : (i : Int) < (a.size : Int) := by omega
  have hb : bcan a o b l (i : Int) t = (bgo a o b l i (-1) == some t || bgo a o b l i 1 == some t) := by
    unfold bcan
    rw [decide_eq_true (show 0 ≤ (i : Int) ∧ (i : Int) < (a.size : Int) from ⟨hf.1, f1⟩), Bool.true_and, Int.toNat_natCast]
  have no : ∀ (P : Prop), (0 ≤ t → t < (a.size : Int) → bt a t = 46 → (bt a (i : Int) = 84 ∨ bt a (i : Int) = 70) → False) → bcan a o b l (i : Int) t = false := by
    intro _ h
    rw [hb, Bool.or_eq_false_iff, beq_eq_false_iff_ne, beq_eq_false_iff_ne]
    refine ⟨fun h2 => ?_, fun h2 => ?_⟩
    · obtain ⟨g0, g1, g2, g3, _⟩ := bgo_in (by omega) hi (.inr rfl) h2
      exact h g0 g1 g2 g3
    · obtain ⟨g0, g1, g2, g3, _⟩ := bgo_in (by omega) hi (.inl rfl) h2
      exact h g0 g1 g2 g3
  rw [if_pos (by simp; omega)]
  by_cases ht : 0 ≤ t ∧ t ≤ (a.size : Int) - 1
  case neg =>
    rw [if_neg (by simp; omega), if_pos trivial, no True (fun g0 g1 _ _ => ht ⟨g0, by omega⟩)]
  have t1 : t < (a.size : Int) := by omega
  rw [if_pos (by simp; omega), if_pos hf.1, if_pos f1]
  by_cases q1 : bt a (i : Int) = 46
  · rw [if_pos q1, if_pos trivial, no True (fun _ _ _ g => by omega)]
  rw [if_neg q1, if_pos ht.1, if_pos t1]
  have hc : bt a (i : Int) = 84 ∨ bt a (i : Int) = 70 := by
    rcases sgn_three hl hf.1 f1 with h | h | h
    · exact .inl h
    · exact .inr h
    · exact absurd h q1
  by_cases q2 : bt a t = 46
  case neg =>
    rw [if_pos (by simpa using q2), no True (fun _ _ g _ => q2 g)]
  rw [if_neg (by simp [q2]), hb]
  have hne : t ≠ (i : Int) := fun h => by rw [h] at q2; exact q1 q2
  by_cases q3 : t < (i : Int)
  · rw [if_pos q3, ruCan_dir a (by omega) hl i hi hc (-1) (.inr rfl) (i - t.toNat) (by omega) t (by omega) ht.1 t1 q2 o b l k (by omega)]
    have : (bgo a o b l i 1 == some t) = false := by
      rw [beq_eq_false_iff_ne]
      intro h
      have := (bgo_in (by omega) hi (.inl rfl) h).2.2.2.2.1 rfl
      omega
    rw [this, Bool.or_false]
  · rw [if_neg q3, ruCan_dir a (by omega) hl i hi hc 1 (.inl rfl) (t.toNat - i) (by omega) t (by omega) ht.1 t1 q2 o b l k (by omega)]
    have : (bgo a o b l i (-1) == some t) = false := by
      rw [beq_eq_false_iff_ne]
      intro h
      have := (bgo_in (by omega) hi (.inr rfl) h).2.2.2.2.2 rfl
      omega
    rw [this, Bool.false_or]
end Go.Proofs.Ytpelhinjoambfaa.XD
