/- An argument that is a slice of whole numbers: its cells. -/
import Derived.ChangeSlices
import Derived.Test.YtpelhinjoambfaaWWords
namespace Go.Proofs.Ytpelhinjoambfaa.XS
set_option linter.unusedVariables false
set_option linter.unusedSimpArgs false
open Go Go.RowKit Go.ChangeShapes Go.WideShapes Go.Proofs.YtpelhinjoambfaaW.PrintWords

section
variable {H : Type} {enc : TypeId × Value → H} {P : Program} {w : World} {base : Nat} {spare : Nat → Bool} {held : Bool}
theorem open_ints_C {t e : TypeId} {k : IntKind} {A : Option Addr} {len cap : Nat} {d : DataW H} {p : List MemPlace} (ht : P.underlying t = some (.slice e)) (he : P.underlying e = some (.int k)) (hC : P.cellsOf e = 1)
    (h : DataW.Trod enc P w base spare held t (.slice A len cap) d p) : ∃ l : List Int, len = l.length ∧ Kd.C (Kd.int k) w A l.length l ∧ l.length ≤ cap ∧ ∀ n ∈ l, (Lit.int k n).wf = true := by
  obtain ⟨fuel, hf⟩ := h
  rcases open_ints ht he hC hf with ⟨hcs, _⟩ | ⟨a, len', cap', zs, hcs, _, hl, hm, hz, _, hcell, hwf⟩
  · simp [Value.cells] at hcs
    obtain ⟨rfl, rfl, rfl⟩ := hcs
    exact ⟨[], rfl, ⟨rfl, by simp, fun h => by simp at h⟩, by simp, fun n hn => by cases hn⟩
  · simp [Value.cells] at hcs
    obtain ⟨rfl, rfl, rfl⟩ := hcs
    have hlz : len ≤ zs.length := by rw [hz]; split <;> omega
    have hll : (zs.take len).length = len := by rw [List.length_take]; omega
    refine ⟨zs.take len, hll.symm, ⟨rfl, by rw [hll]; simp only [maxLen] at hm; omega, fun hn => ⟨a, rfl, fun j q hj => ?_⟩⟩, by rw [hll]; exact hl, fun n hn => hwf n (List.mem_of_mem_take hn)⟩
    have hjl : j < len := by
      rcases Nat.lt_or_ge j len with g | g
      · exact g
      · rw [List.getElem?_eq_none (by omega)] at hj
        cases hj
    rw [List.getElem?_take_of_lt hjl] at hj
    refine ⟨[.int k q], rfl, rfl, fun i u hu => ?_⟩
    match i, hu with
    | 0, hu =>
      simp only [List.getElem?_cons_zero, Option.some.injEq] at hu
      subst hu
      rw [show j * (Kd.int k).sz + 0 = j from Nat.mul_one j, hcell j (by omega), List.getD_eq_getElem?_getD, hj]
      rfl
    | i + 1, hu => simp at hu
end
end Go.Proofs.Ytpelhinjoambfaa.XS
