/- The reference's list of the moves by a rule is the program's: for all lines of 1 to 10 signs and all rules. -/
import Derived.Test.YtpelhinjoambfaaXD0
import Derived.Test.YtpelhinjoambfaaXD4
import Derived.Test.YtpelhinjoambfaaLDbmoves
namespace Go.Proofs.Ytpelhinjoambfaa.XD
set_option linter.unusedVariables false
set_option linter.unusedSimpArgs false
open Go Go.RowKit Go.Proofs.YtpelhinjoambfaaW.PrintWords Go.Proofs.YtpelhinjoambfaaB

theorem bt_lt' {a : ByteArray} (h : a.data.toList.all sgn = true) {i : Nat} (hi : i < a.size) : bt a (i : Int) < 128 := by
  rcases sgn_three h (i := (i : Int)) (by omega) (by omega) with h | h | h <;> omega
theorem ruMoves_l1 (a : ByteArray) (hs1 : 1 ≤ a.size) (hs : a.size ≤ 10) (hl : a.data.toList.all sgn = true) (o b l : Bool) (i : Nat) (R : List S58) (K M : Nat)
    (H : ∀ (acc : List S58) (k : Nat), acc.length + M ≤ 200 → K ≤ k → spec_ruMoves.l0 k a acc o b l ((i + 1 : Nat) : Int) a = some (acc ++ R)) :
    ∀ (e j k : Nat) (acc : List S58), j + e = a.size → e + K + 130 ≤ k → acc.length + e + M ≤ 200 → spec_ruMoves.l1 k a acc (i : Int) o b l ((i + 1 : Nat) : Int) a (j : Int) a = some (acc ++ (collect (bcan a o b l (i : Int)) (i : Int) e j ++ R)) := by
  intro e
  induction e with
  | zero =>
    intro j k acc hj hk hle
    obtain ⟨k, rfl⟩ : ∃ m, k = m + 1 := ⟨k - 1, by omega⟩
    simp only [spec_ruMoves.l1]
    rw [if_pos (by omega), if_neg (by omega), H acc k (by omega) (by omega), collect, List.nil_append]
  | succ e ih =>
    intro j k acc hj hk hle
    obtain ⟨k, rfl⟩ : ∃ m, k = m + 1 := ⟨k - 1, by omega⟩
    simp only [spec_ruMoves.l1]
    have w : ((j : Int) + 1) = ((j + 1 : Nat) : Int) := rfl
    have z : acc.length < 8796093022208 := by omega
    have t1 := ih (j + 1) k acc (by omega) (by omega) (by omega)
    have t2 := ih (j + 1) k (acc ++ [⟨(i : Int), (j : Int)⟩]) (by omega) (by omega) (by rw [List.length_append, List.length_singleton]; omega)
    rw [if_pos (by omega), if_pos (by omega), if_pos (bt_lt' hl (by omega)), ruCan_eq a hs1 hs hl _ _ o b l k (by omega), w, collect]
    simp only [Option.bind_some]
    by_cases h : bcan a o b l (i : Int) (j : Int) = true
    · rw [if_pos h, if_pos h, if_pos z, t2, List.append_assoc, List.append_assoc]
    · rw [if_neg h, if_neg h, t1, List.nil_append]
theorem ruMoves_l0 (a : ByteArray) (hs1 : 1 ≤ a.size) (hs : a.size ≤ 10) (hl : a.data.toList.all sgn = true) (o b l : Bool) : ∀ (d i : Nat), i + d = a.size → ∀ (acc : List S58) (k : Nat), acc.length + d * 10 ≤ 200 → d * 150 + 150 ≤ k →
    spec_ruMoves.l0 k a acc o b l (i : Int) a = some (acc ++ each (fun j => collect (bcan a o b l (j : Int)) (j : Int) a.size 0) d i) := by
  intro d
  induction d with
  | zero =>
    intro i hi acc k hle hk
    obtain ⟨k, rfl⟩ : ∃ m, k = m + 1 := ⟨k - 1, by omega⟩
    simp only [spec_ruMoves.l0]
    rw [if_pos (by omega), if_neg (by omega), each, List.append_nil]
  | succ d ih =>
    intro i hi acc k hle hk
    obtain ⟨k, rfl⟩ : ∃ m, k = m + 1 := ⟨k - 1, by omega⟩
    simp only [spec_ruMoves.l0]
    have H : ∀ (l' : List S58) (k : Nat), l'.length + d * 10 ≤ 200 → d * 150 + 150 ≤ k → spec_ruMoves.l0 k a l' o b l ((i + 1 : Nat) : Int) a = some (l' ++ each (fun j => collect (bcan a o b l (j : Int)) (j : Int) a.size 0) d (i + 1)) := ih (i + 1) (by omega)
    have w : ((i : Int) + 1) = ((i + 1 : Nat) : Int) := rfl
    rw [if_pos (by omega), if_pos (by omega), if_pos (bt_lt' hl (by omega)), w, each]
    exact ruMoves_l1 a hs1 hs hl o b l i _ (d * 150 + 150) (d * 10) H a.size 0 k acc (by omega) (by omega) (by omega)
theorem ruMoves_eq (a : ByteArray) (hs1 : 1 ≤ a.size) (hs : a.size ≤ 10) (hl : a.data.toList.all sgn = true) (o b l : Bool) (k : Nat) (hk : 1700 ≤ k) : spec_ruMoves.f k a o b l = some (bmoves a o b l) := by
  unfold spec_ruMoves.f bmoves
  have h := ruMoves_l0 a hs1 hs hl o b l a.size 0 (by omega) [] k (by simp; omega) (by omega)
  rw [each_congr _ (bmove a o b l) a.size 0 (fun j _ h => collect_bmove a (by omega) o b l j (by omega)), List.nil_append] at h
  rw [show min a.size 50 = a.size from by omega]
  exact h
end Go.Proofs.Ytpelhinjoambfaa.XD
