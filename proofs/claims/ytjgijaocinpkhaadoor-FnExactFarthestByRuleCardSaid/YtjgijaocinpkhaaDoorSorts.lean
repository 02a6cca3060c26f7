/- slices.Sort and slices.Compact at a row of texts of the call's own: the same block holds what comes. For all programs in which the shelf's bodies lie, all rows of at most 1000000000 texts. -/
import Derived.Shelf.Sort.Plain
import Derived.Shelf.Slices.CompactS
import Derived.Shelf.Slices.In.SortNone
import Derived.Sort.OwnSorted
import Derived.Lib.RowBridge
import Derived.Test.YtjgijaocinpkhaaDoorWWords
import Derived.Test.YtjgijaocinpkhaaDoorWLast
import Derived.Test.YtjgijaocinpkhaaDoorWKept
namespace Go.Proofs.YtjgijaocinpkhaaDoor.Sorts
open Go Go.RowKit Go.Sort Go.Shelf Go.Proofs Go.Proofs.YtjgijaocinpkhaaDoorW.PrintWords

/-- texts as lists of bytes, and back -/
def bytes (l : List ByteArray) : List (List UInt8) := l.map fun x => x.data.toList
def texts (l : List (List UInt8)) : List ByteArray := l.map fun x => ⟨x.toArray⟩
theorem texts_bytes (l : List ByteArray) : texts (bytes l) = l := by
  unfold texts bytes
  rw [List.map_map]
  conv => rhs; rw [← List.map_id l]
  apply List.map_congr_left
  intro x _
  rfl
theorem enc_texts (l : List (List UInt8)) : l.map encStr = (texts l).map Value.string := by
  unfold texts
  rw [List.map_map]
  rfl
def sorted (l : List ByteArray) : List ByteArray := texts ((bytes l).mergeSort fun x y => decide (x ≤ y))
def compacted (l : List ByteArray) : List ByteArray := texts (Lib.compact (bytes l))
theorem sorted_nil : sorted [] = [] := by simp [sorted, bytes, texts]
theorem compacted_nil : compacted [] = [] := rfl
theorem reps_str {w : World} {base : Nat} {ok : Nat → Prop} {l : List ByteArray} {inner : List Value} (h : Reps (Kd.string.M w base ok) 1 l inner) : inner = l.map Value.string := by
  apply List.ext_getElem?
  intro j
  by_cases hj : j < l.length
  · have h1 := h.2 j _ (List.getElem?_eq_getElem hj)
    have h2 : (inner.drop (j * 1)).take 1 = [.string l[j]] := h1
    have h3 := congrArg (·[0]?) h2
    rw [Nat.mul_one] at h3
    simp only [List.getElem?_take, List.getElem?_drop, Nat.add_zero, List.getElem?_cons_zero] at h3
    rw [List.getElem?_map, List.getElem?_eq_getElem hj]
    simpa using h3
  · rw [List.getElem?_eq_none (by rw [h.1]; omega), List.getElem?_eq_none (by rw [List.length_map]; omega)]
theorem str_reps (w : World) (base : Nat) (ok : Nat → Prop) (l : List ByteArray) : Reps (Kd.string.M w base ok) 1 l (l.map Value.string) := by
  refine ⟨by simp, fun j p hj => ?_⟩
  obtain ⟨hl, rfl⟩ := List.getElem?_eq_some_iff.1 hj
  show ((l.map Value.string).drop (j * 1)).take 1 = [.string l[j]]
  rw [Nat.mul_one]
  apply List.ext_getElem?
  intro i
  cases i with
  | zero => simp [List.getElem?_drop, hl]
  | succ i => simp [List.getElem?_take]
section
variable {P : Program} {ρ : Ren} {e : Nat} {w0 w : World} {ok : Nat → Prop} {u : Value} {l : List ByteArray}
theorem sort_call (L : Lays.n190 P ρ) (hB : Below w0.heap.size w0 w) (h : Kd.R Kd.string e w w0.heap.size ok u l) (hl : l.length ≤ 1000000000) :
    Calls P (ρ.f 190) #[u] w fun ee w' => ee = .returned (.tuple #[]) ∧ Kd.R Kd.string e w' w0.heap.size (fun k => ok k ∨ w.heap.size ≤ k) u (sorted l) ∧ Below w0.heap.size w0 w' ∧ Kept w w' (fun k => ok k) := by
  obtain ⟨h0, inner, ho, hr⟩ := h
  have hin := reps_str hr
  rcases ho.2 with ⟨rfl, hn⟩ | ⟨g, cap, cur, rfl, hg, hb, hn, hcap, hcs, ht⟩
  · have hl0 : l = [] := List.length_eq_zero_iff.1 hn
    subst hl0
    refine (Any.slices_Sort_string_none L none 0 w).mono fun e' w' hh => ?_
    obtain ⟨rfl, rfl⟩ := hh
    rw [sorted_nil]
    exact ⟨rfl, Kd.R_nil _ _ _ _ _, hB, Kept.refl _ _⟩
  · have hgl : g < w.heap.size := (Array.getElem?_eq_some_iff.1 hb).1
    have hss : (bytes l).length = l.length := by unfold bytes; rw [List.length_map]
    have hH : Holds encStr w g 0 (bytes l).toArray := holds_of_block hb (by
      rw [hss, enc_texts, texts_bytes, ← hin]
      have : l.length * Kd.string.sz = l.length := Nat.mul_one _
      rw [← this]
      exact ht)
    have hcall := Any.slices_Sort_string L g 0 cap (bytes l) w hH hgl (by omega)
    rw [hss] at hcall
    refine hcall.mono fun e' w' hh => ?_
    obtain ⟨rfl, n, os, rfl⟩ := hh
    have hlen : (sorted l).length = l.length := by unfold sorted texts; rw [List.length_map, List.length_mergeSort, hss]
    have hgr : w.grownBy (grow (putRow encStr (Sort.ahead w n) g 0 ((bytes l).mergeSort fun x y => decide (x ≤ y)).toArray) os) (some g) := grownBy_sorted _
    have how := ownsRow_sorted (n := n) (os := os) (e := e) (base := w0.heap.size) (g := g) (cap := cap) (ss := bytes l) (ts := (bytes l).mergeSort fun x y => decide (x ≤ y)) (by rw [List.length_mergeSort]) hg hb (by rw [hss]; exact hn) hcap hcs
    rw [hss, enc_texts] at how
    refine ⟨rfl, ⟨fun k hk => .inl (h0 k hk), (sorted l).map Value.string, ?_, str_reps _ _ _ _⟩, hB.grown hgr hB.size (fun k e' => by cases e'; exact hg), Kept.of_grown hgr (Kept.refl _ _) (fun k e' => by cases e'; exact .inl (h0 g rfl))⟩
    rw [hlen]
    exact how
theorem compact_call (L : Lays.n194 P ρ) (hB : Below w0.heap.size w0 w) (h : Kd.R Kd.string e w w0.heap.size ok u l) (hl : l.length ≤ 1000000000) :
    Calls P (ρ.f 194) #[u] w fun ee w' => ∃ v, ee = .returned v ∧ Kd.R Kd.string e w' w0.heap.size (fun k => ok k ∨ w.heap.size ≤ k) v (compacted l) ∧ Below w0.heap.size w0 w' ∧ Kept w w' (fun k => ok k) := by
  obtain ⟨h0, inner, ho, hr⟩ := h
  have hin := reps_str hr
  rcases ho.2 with ⟨rfl, hn⟩ | ⟨g, cap, cur, rfl, hg, hb, hn, hcap, hcs, ht⟩
  · have hl0 : l = [] := List.length_eq_zero_iff.1 hn
    subst hl0
    refine (Any.slices_Compact_string_empty L none 0 w).mono fun e' w' hh => ?_
    obtain ⟨rfl, rfl⟩ := hh
    rw [compacted_nil]
    exact ⟨_, rfl, Kd.R_nil _ _ _ _ _, hB, Kept.refl _ _⟩
  · have hss : (bytes l).length = l.length := by unfold bytes; rw [List.length_map]
    have hH : Holds encStr w g 0 (bytes l).toArray := holds_of_block hb (by
      rw [hss, enc_texts, texts_bytes, ← hin]
      have : l.length * Kd.string.sz = l.length := Nat.mul_one _
      rw [← this]
      exact ht)
    have hcall := Any.slices_Compact_string L g 0 cap (bytes l) w hH (by rw [hss]; omega) (by rw [hss]; exact hn)
    rw [hss] at hcall
    refine hcall.mono fun e' w' hh => ?_
    obtain ⟨rfl, q, rfl⟩ := hh
    have hcl : (Lib.compact (bytes l)).length ≤ l.length := by rw [← hss]; exact Lib.compact_length_le _
    have hlen : (compacted l).length = (Lib.compact (bytes l)).length := by unfold compacted texts; rw [List.length_map]
    generalize hts : Lib.compact (bytes l) ++ List.replicate (l.length - (Lib.compact (bytes l)).length) [] = ts
    have htl : ts.length = l.length := by rw [← hts, List.length_append, List.length_replicate]; omega
    have hgr : w.grownBy (grow (putRow encStr (Sort.ahead w q) g 0 ts.toArray) #[]) (some g) := grownBy_sorted _
    have how := ownsRow_sorted (n := q) (os := #[]) (e := e) (base := w0.heap.size) (g := g) (cap := cap) (ss := bytes l) (ts := ts) (by rw [htl, hss]) hg hb (by rw [hss]; exact hn) hcap hcs
    have hgw : grow (putRow encStr (Sort.ahead w q) g 0 ts.toArray) #[] = putRow encStr (Sort.ahead w q) g 0 ts.toArray := grow_empty _
    rw [hgw] at hgr how
    refine ⟨_, rfl, ⟨fun k hk => .inl (h0 k hk), (compacted l).map Value.string, ?_, str_reps _ _ _ _⟩, hB.grown hgr hB.size (fun k e' => by cases e'; exact hg), Kept.of_grown hgr (Kept.refl _ _) (fun k e' => by cases e'; exact .inl (h0 g rfl))⟩
    rcases how.2 with ⟨hv, _⟩ | ⟨g2, cap2, cur2, hv, hg2, hb2, hn2, hcap2, hcs2, ht2⟩
    · cases hv
    · injection hv with e1 _ e2
      injection e1 with e1
      injection e1 with e1
      subst e1
      subst e2
      refine ⟨by rw [List.length_map]; exact (Nat.mul_one _).symm, .inr ⟨g, cap, cur2, by rw [hlen], hg2, hb2, by rw [hlen]; exact Nat.le_trans hcl hn, hcap2, hcs2, ?_⟩⟩
      have h5 : cur2.toList.take l.length = ts.map encStr := by
        rw [hss, Nat.mul_one] at ht2
        exact ht2
      have h6 : (compacted l).length * Kd.string.sz = (Lib.compact (bytes l)).length := by rw [hlen]; exact Nat.mul_one _
      rw [h6]
      have h7 : cur2.toList.take (Lib.compact (bytes l)).length = (cur2.toList.take l.length).take (Lib.compact (bytes l)).length := by rw [List.take_take, Nat.min_eq_left hcl]
      rw [h7, h5, ← List.map_take, ← hts, List.take_left', enc_texts]
      · rfl
      · rfl
end
end Go.Proofs.YtjgijaocinpkhaaDoor.Sorts
