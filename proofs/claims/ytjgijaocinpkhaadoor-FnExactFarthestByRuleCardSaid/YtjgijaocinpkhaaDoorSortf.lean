/- What is sorted and compacted is in order, each once, and has the same texts; two such lists with the same texts are one. Plain facts, for all lists of texts. -/
import Derived.Test.YtjgijaocinpkhaaDoorSorts
import Derived.Test.YtjgijaocinpkhaaDoorSrts
namespace Go.Proofs.YtjgijaocinpkhaaDoor.Sorts
open Go Go.Lib Go.Proofs Go.Proofs.YtjgijaocinpkhaaDoor.Srts

theorem le_lt (x y : List UInt8) : (x ≤ y) ↔ lsB ⟨y.toArray⟩ ⟨x.toArray⟩ = false := by
  unfold lsB
  rw [ByteArray.toList_eq, ByteArray.toList_eq, bytesLess_eq]
  simp
def leB (x y : ByteArray) : Prop := lsB y x = false
theorem leB_trans {x y z : ByteArray} (h : leB x y) (h' : leB y z) : leB x z := by
  unfold leB at *
  cases hzx : lsB z x with
  | false => rfl
  | true =>
    by_cases e : y = x
    · subst e
      rw [hzx] at h'
      cases h'
    · have h1 := lsB_total h e
      rw [lsB_trans hzx h1] at h'
      cases h'
theorem leB_total (x y : ByteArray) : leB x y ∨ leB y x := by
  unfold leB
  cases h : lsB y x with
  | false => exact .inl rfl
  | true =>
    right
    cases h' : lsB x y with
    | false => rfl
    | true =>
      have := lsB_trans h h'
      rw [lsB_irrefl] at this
      cases this
theorem leB_lt {x y : ByteArray} (h : leB x y) (hne : x ≠ y) : lsB x y = true := lsB_total h (fun e => hne e.symm)
theorem leB_anti {x y : ByteArray} (h : leB x y) (h' : leB y x) : x = y := by
  by_cases e : x = y
  · exact e
  · have h1 := leB_lt h e
    unfold leB at h'
    rw [h1] at h'
    cases h'
theorem mem_texts {l : List (List UInt8)} {x : ByteArray} : x ∈ texts l ↔ x.data.toList ∈ l := by
  unfold texts
  rw [List.mem_map]
  constructor
  · rintro ⟨b, hb, rfl⟩
    simpa using hb
  · intro h
    exact ⟨_, h, rfl⟩
theorem mem_bytes {l : List ByteArray} {x : ByteArray} : x.data.toList ∈ bytes l ↔ x ∈ l := by
  rw [← mem_texts, texts_bytes]
theorem mem_sorted {l : List ByteArray} {x : ByteArray} : x ∈ sorted l ↔ x ∈ l := by
  unfold sorted
  rw [mem_texts, List.mem_mergeSort, mem_bytes]
theorem sorted_le (l : List ByteArray) : (sorted l).Pairwise leB := by
  unfold sorted texts
  rw [List.pairwise_map]
  have h := List.pairwise_mergeSort (le := fun x y : List UInt8 => decide (x ≤ y)) (fun a b c h1 h2 => by
    simp only [decide_eq_true_eq] at *
    rw [le_lt] at *
    exact leB_trans h1 h2) (fun a b => by
    simp only [Bool.or_eq_true, decide_eq_true_eq]
    rw [le_lt, le_lt]
    exact leB_total _ _) (bytes l)
  exact h.imp (fun {a b} hab => by
    simp only [decide_eq_true_eq] at hab
    exact (le_lt a b).1 hab)
theorem compact_upto {d : Array (List UInt8)} (hd : ∀ i j, i ≤ j → j < d.size → leB ⟨d[i]!.toArray⟩ ⟨d[j]!.toArray⟩) : ∀ m, m ≤ d.size → (texts (compactUpTo d m)).Pairwise (fun a b => lsB a b = true) ∧ ∀ x : List UInt8, x ∈ compactUpTo d m ↔ ∃ j, j < m ∧ d[j]! = x
  | 0, _ => ⟨List.Pairwise.nil, fun x => by simp [compactUpTo]⟩
  | m + 1, hm => by
    obtain ⟨h1, h2⟩ := compact_upto hd m (by omega)
    rw [compactUpTo_succ]
    by_cases hk : keeps d m = true
    · rw [if_pos hk]
      constructor
      · unfold texts at *
        rw [List.map_append, List.pairwise_append]
        refine ⟨h1, List.pairwise_singleton _ _, fun a ha b hb => ?_⟩
        obtain ⟨x, hx, rfl⟩ := List.mem_map.1 ha
        simp only [List.map_cons, List.map_nil, List.mem_singleton] at hb
        subst hb
        obtain ⟨j, hj, rfl⟩ := (h2 x).1 hx
        have hle := hd j m (by omega) (by omega)
        refine leB_lt hle (fun e => ?_)
        unfold keeps at hk
        simp only [decide_eq_true_eq] at hk
        rcases hk with hk | hk
        · omega
        · apply hk
          have e1 : leB ⟨d[m]!.toArray⟩ ⟨d[m - 1]!.toArray⟩ := by rw [← e]; exact hd j (m - 1) (by omega) (by omega)
          have e2 := leB_anti e1 (hd (m - 1) m (by omega) (by omega))
          have e3 := congrArg (fun z : ByteArray => z.data.toList) e2
          simpa using e3
      · intro x
        rw [List.mem_append, List.mem_singleton, h2]
        constructor
        · rintro (⟨j, hj, e⟩ | e)
          · exact ⟨j, by omega, e⟩
          · exact ⟨m, by omega, e.symm⟩
        · rintro ⟨j, hj, e⟩
          by_cases hjm : j = m
          · subst hjm; exact .inr e.symm
          · exact .inl ⟨j, by omega, e⟩
    · rw [if_neg hk, List.append_nil]
      refine ⟨h1, fun x => ?_⟩
      rw [h2]
      constructor
      · rintro ⟨j, hj, e⟩
        exact ⟨j, by omega, e⟩
      · rintro ⟨j, hj, e⟩
        by_cases hjm : j = m
        · subst hjm
          unfold keeps at hk
          simp only [decide_eq_true_eq, not_or, ne_eq, Decidable.not_not] at hk
          exact ⟨j - 1, by omega, by rw [← hk.2]; exact e⟩
        · exact ⟨j, by omega, e⟩
theorem compacted_srt {l : List ByteArray} (h : l.Pairwise leB) : Srt (compacted l) ∧ ∀ x, x ∈ compacted l ↔ x ∈ l := by
  have hs : (bytes l).toArray.size = l.length := by unfold bytes; simp
  have hget : ∀ i, i < l.length → (⟨((bytes l).toArray[i]!).toArray⟩ : ByteArray) = l[i]! := fun i hi => by
    rw [getElem!_pos _ i (by rw [hs]; exact hi), getElem!_pos l i hi]
    unfold bytes
    simp
  have hp := List.pairwise_iff_getElem.1 h
  obtain ⟨h1, h2⟩ := compact_upto (d := (bytes l).toArray) (fun i j hij hj => by
    rw [hs] at hj
    rw [hget i (by omega), hget j hj]
    rcases Nat.lt_or_ge i j with g | g
    · rw [getElem!_pos l i (by omega), getElem!_pos l j hj]
      exact hp i j (by omega) hj g
    · obtain rfl : i = j := by omega
      exact lsB_irrefl _) (bytes l).length (by simp)
  refine ⟨h1, fun x => ?_⟩
  unfold compacted
  rw [mem_texts]
  show x.data.toList ∈ compactUpTo _ _ ↔ _
  rw [h2, ← mem_bytes]
  constructor
  · rintro ⟨j, hj, e⟩
    rw [← e, getElem!_pos _ j (by simpa using hj)]
    simp
  · intro hx
    obtain ⟨j, hj, e⟩ := List.mem_iff_getElem.1 hx
    exact ⟨j, hj, by rw [getElem!_pos _ j (by simpa using hj)]; simpa using e⟩
theorem srt_unique : ∀ {l l' : List ByteArray}, Srt l → Srt l' → (∀ x, x ∈ l ↔ x ∈ l') → l = l'
  | [], [], _, _, _ => rfl
  | [], b :: l', _, _, h => by have := (h b).2 List.mem_cons_self; cases this
  | a :: l, [], _, _, h => by have := (h a).1 List.mem_cons_self; cases this
  | a :: l, b :: l', hs, hs', h => by
    unfold Srt at hs hs'
    rw [List.pairwise_cons] at hs hs'
    have hab : a = b := by
      rcases List.mem_cons.1 ((h a).1 List.mem_cons_self) with e | e
      · exact e
      · rcases List.mem_cons.1 ((h b).2 List.mem_cons_self) with e' | e'
        · exact e'.symm
        · have h1 := hs.1 b e'
          have h2 := hs'.1 a e
          have := lsB_trans h1 h2
          rw [lsB_irrefl] at this
          cases this
    subst hab
    congr 1
    refine srt_unique hs.2 hs'.2 (fun x => ?_)
    have hx := h x
    rw [List.mem_cons, List.mem_cons] at hx
    constructor
    · intro hm
      rcases hx.1 (.inr hm) with e | e
      · subst e
        have := hs.1 x hm
        rw [lsB_irrefl] at this
        cases this
      · exact e
    · intro hm
      rcases hx.2 (.inr hm) with e | e
      · subst e
        have := hs'.1 x hm
        rw [lsB_irrefl] at this
        cases this
      · exact e
end Go.Proofs.YtjgijaocinpkhaaDoor.Sorts
