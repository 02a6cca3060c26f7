/- The reference's list of the moves on a ring is the program's: for all rings of 3 to 9 signs. -/
import Derived.Test.YtpelhinjoambfaaXC0
import Derived.Test.YtpelhinjoambfaaXC2
import Derived.Test.YtpelhinjoambfaaLCrgoal
namespace Go.Proofs.Ytpelhinjoambfaa.XC
set_option linter.unusedVariables false
set_option linter.unusedSimpArgs false
open Go Go.RowKit Go.Proofs.YtpelhinjoambfaaW.PrintWords Go.Proofs.YtpelhinjoambfaaB

theorem bt_lt {a : ByteArray} (h : a.data.toList.all sgn = true) {i : Nat} (hi : i < a.size) : bt a (i : Int) < 128 := by
  obtain ⟨c, hd, hb⟩ := bt_eq a i hi
  have hc : c ∈ a.data.toList := List.mem_of_mem_drop (by rw [hd]; exact List.mem_cons_self)
  have h2 := List.all_eq_true.1 h c hc
  unfold sgn at h2
  simp only [Bool.or_eq_true, beq_iff_eq] at h2
  rw [hb]
  rcases h2 with (rfl | rfl) | rfl <;> decide
theorem ciMoves_l1' (a : ByteArray) (hs3 : 3 ≤ a.size) (hs : a.size ≤ 9) (hl : a.data.toList.all sgn = true) (i : Nat) (R : List S58) (K M : Nat)
    (H : ∀ (l : List S58) (k : Nat), l.length + M ≤ 200 → K ≤ k → spec_ciMoves.l0 k a l ((i + 1 : Nat) : Int) a = some (l ++ R)) :
    ∀ (e j k : Nat) (l : List S58), j + e = a.size → e + K + 1 ≤ k → l.length + e + M ≤ 200 → spec_ciMoves.l1 k a l (i : Int) ((i + 1 : Nat) : Int) a (j : Int) a = some (l ++ (collect (rcan a (i : Int)) (i : Int) e j ++ R)) := by
  intro e
  induction e with
  | zero =>
    intro j k l hj hk hle
    obtain ⟨k, rfl⟩ : ∃ m, k = m + 1 := ⟨k - 1, by omega⟩
    simp only [spec_ciMoves.l1]
    rw [if_pos (by omega), if_neg (by omega), H l k (by omega) (by omega), collect, List.nil_append]
  | succ e ih =>
    intro j k l hj hk hle
    obtain ⟨k, rfl⟩ : ∃ m, k = m + 1 := ⟨k - 1, by omega⟩
    simp only [spec_ciMoves.l1]
    have w : ((j : Int) + 1) = ((j + 1 : Nat) : Int) := rfl
    have z : l.length < 8796093022208 := by omega
    have t1 := ih (j + 1) k l (by omega) (by omega) (by omega)
    have t2 := ih (j + 1) k (l ++ [⟨(i : Int), (j : Int)⟩]) (by omega) (by omega) (by rw [List.length_append, List.length_singleton]; omega)
    rw [if_pos (by omega), if_pos (by omega), if_pos (bt_lt hl (by omega)), ciCan_eq a hs3 hs _ _ k (by omega), w, collect]
    simp only [Option.bind_some]
    by_cases h : rcan a (i : Int) (j : Int) = true
    · rw [if_pos h, if_pos h, if_pos z, t2, List.append_assoc, List.append_assoc]
    · rw [if_neg h, if_neg h, t1, List.nil_append]
theorem ciMoves_l0 (a : ByteArray) (hs3 : 3 ≤ a.size) (hs : a.size ≤ 9) (hl : a.data.toList.all sgn = true) : ∀ (d i : Nat), i + d = a.size → ∀ (l : List S58) (k : Nat), l.length + d * 9 ≤ 200 → d * 11 + 1 ≤ k →
    spec_ciMoves.l0 k a l (i : Int) a = some (l ++ each (fun j => collect (rcan a (j : Int)) (j : Int) a.size 0) d i) := by
  intro d
  induction d with
  | zero =>
    intro i hi l k hle hk
    obtain ⟨k, rfl⟩ : ∃ m, k = m + 1 := ⟨k - 1, by omega⟩
    simp only [spec_ciMoves.l0]
    rw [if_pos (by omega), if_neg (by omega), each, List.append_nil]
  | succ d ih =>
    intro i hi l k hle hk
    obtain ⟨k, rfl⟩ : ∃ m, k = m + 1 := ⟨k - 1, by omega⟩
    simp only [spec_ciMoves.l0]
    have H : ∀ (l' : List S58) (k : Nat), l'.length + d * 9 ≤ 200 → d * 11 + 1 ≤ k → spec_ciMoves.l0 k a l' ((i + 1 : Nat) : Int) a = some (l' ++ each (fun j => collect (rcan a (j : Int)) (j : Int) a.size 0) d (i + 1)) := ih (i + 1) (by omega)
    have w : ((i : Int) + 1) = ((i + 1 : Nat) : Int) := rfl
    rw [if_pos (by omega), if_pos (by omega), if_pos (bt_lt hl (by omega)), w, each]
    exact ciMoves_l1' a hs3 hs hl i _ (d * 11 + 1) (d * 9) H a.size 0 k l (by omega) (by omega) (by omega)
theorem collect_ring (a : ByteArray) (i : Nat) (hi : i < a.size) : collect (rcan a (i : Int)) (i : Int) a.size 0 = rmove a i := by
  have f0 : (0 : Int) ≤ (i : Int) := by omega
  have f1 : (i : Int) < (a.size : Int) := by omega
  cases hg : rgoal a (i : Int) with
  | none =>
    rw [rmove_none hg]
    exact collect_none _ _ _ _ (fun t _ _ => by unfold rcan; rw [hg]; simp)
  | some g =>
    obtain ⟨g0, g1⟩ := rgoal_in f0 f1 hg
    obtain ⟨m, rfl⟩ : ∃ m : Nat, g = (m : Int) := ⟨g.toNat, by omega⟩
    rw [rmove_some hg]
    refine collect_one _ _ _ _ m (by omega) (by omega) (fun t _ _ => ?_)
    unfold rcan
    rw [hg, decide_eq_true (show 0 ≤ (i : Int) ∧ (i : Int) < (a.size : Int) from ⟨f0, f1⟩), Bool.true_and, beq_iff_eq, Option.some.injEq]
    omega
theorem ciMoves_eq (a : ByteArray) (hs3 : 3 ≤ a.size) (hs : a.size ≤ 9) (hl : a.data.toList.all sgn = true) (k : Nat) (hk : 150 ≤ k) : spec_ciMoves.f k a = some (rmoves a) := by
  unfold spec_ciMoves.f rmoves
  have h := ciMoves_l0 a hs3 hs hl a.size 0 (by omega) [] k (by simp; omega) (by omega)
  rw [each_congr _ (rmove a) a.size 0 (fun j _ h => collect_ring a j (by omega)), List.nil_append] at h
  exact h
end Go.Proofs.Ytpelhinjoambfaa.XC
