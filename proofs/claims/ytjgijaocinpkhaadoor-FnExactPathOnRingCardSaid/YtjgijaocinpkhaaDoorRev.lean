/- slices.Reverse at a row of the call's own, whose elements have two cells: the same slice holds the list backwards. For all programs in which the shelf's body lies, all rows of at most 1000000000 elements. -/
import Derived.Shelf.SlicesQ.Reverse
import Derived.Test.YtjgijaocinpkhaaDoorWWords
import Derived.Test.YtjgijaocinpkhaaDoorWLast
import Derived.KernelRfl
namespace Go.Proofs.YtjgijaocinpkhaaDoor.Rev
open Go Go.RowKit Go.Sort Go.Shelf Go.Proofs Go.Proofs.YtjgijaocinpkhaaDoorW.PrintWords
section
variable {α : Type} [Inhabited α] {enc : α → List Value}
theorem flat_get (hk : ∀ x, (enc x).length = 2) (l : List α) (t : Nat) (ht : t < l.length * 2) : (flatK enc 2 l.toArray).toList[t]? = (enc (l[t / 2]'(by omega)))[t % 2]? := by
  have h := get_flatK enc 2 l.toArray t (by simpa using ht)
  have hs : t < (flatK enc 2 l.toArray).size := by rw [size_flatK]; simpa using ht
  have h2 : t / 2 < l.toArray.size := by rw [List.size_toArray]; omega
  rw [getElem!_pos _ t hs, getElem!_pos l.toArray (t / 2) h2] at h
  rw [Array.getElem?_toList, Array.getElem?_eq_getElem hs, h, List.getElem_toArray, getElem!_pos (enc _) (t % 2) (by rw [hk]; omega), List.getElem?_eq_getElem (by rw [hk]; omega)]
theorem flat_of (hk : ∀ x, (enc x).length = 2) (l : List α) (xs : List Value) (hx : xs.length = l.length * 2) (h : ∀ j p, l[j]? = some p → (xs.drop (j * 2)).take 2 = enc p) : xs = (flatK enc 2 l.toArray).toList := by
  apply List.ext_getElem?
  intro t
  by_cases ht : t < l.length * 2
  · rw [flat_get hk l t ht, ← h (t / 2) _ (List.getElem?_eq_getElem (by omega)), List.getElem?_take, if_pos (by omega), List.getElem?_drop, show t / 2 * 2 + t % 2 = t by omega]
  · rw [List.getElem?_eq_none (by omega), List.getElem?_eq_none (by simp; omega)]
theorem flat_at (hk : ∀ x, (enc x).length = 2) (l : List α) (j : Nat) (p : α) (hj : l[j]? = some p) : ((flatK enc 2 l.toArray).toList.drop (j * 2)).take 2 = enc p := by
  obtain ⟨hlt, rfl⟩ := List.getElem?_eq_some_iff.1 hj
  apply List.ext_getElem?
  intro u
  by_cases hu : u < 2
  · rw [List.getElem?_take, if_pos hu, List.getElem?_drop, flat_get hk l (j * 2 + u) (by omega)]
    simp only [show (j * 2 + u) / 2 = j by omega, show (j * 2 + u) % 2 = u by omega]
  · rw [List.getElem?_eq_none (by simp; omega), List.getElem?_eq_none (by rw [hk]; omega)]
end
section
variable {w : World} {g n : Nat} {e : TypeId} {cur : Array Value}
theorem holds_flat (hb : w.heap[g]? = some (.cells cur e (0, 0))) (F : Array Value) (ht : cur.toList.take F.size = F.toList) : Holds id w g 0 F := by
  intro j hj
  refine ⟨?_, by simp [World.frozen?, hb]⟩
  have h1 : (cur.toList.take F.size)[j]? = F.toList[j]? := by rw [ht]
  rw [List.getElem?_take_of_lt hj] at h1
  simp only [World.cell?, hb, Nat.zero_add]
  simp only [Option.isSome_none, Bool.false_eq_true, if_false]
  rw [← Array.getElem?_toList, h1]
  simp [hj]
theorem heap_put (F : Array Value) (hb : w.heap[g]? = some (.cells cur e (0, 0))) : (putRow id (Sort.ahead w n) g 0 F).heap[g]? = some (.cells (putCells id 0 F cur) e (0, 0)) := by
  simp [putRow, mapBlock, Sort.ahead, Array.getElem?_modify, hb, onCells]
theorem grown_put (F : Array Value) : w.grownBy (putRow id (Sort.ahead w n) g 0 F) (some g) := by
  refine ⟨rfl, rfl, rfl, by simp, fun k hk hne => ?_⟩
  have : g ≠ k := fun e => hne (by rw [e])
  simp [putRow, mapBlock, Sort.ahead, Array.getElem?_modify, this]
theorem take_put (cur F : Array Value) (h : F.size ≤ cur.size) : (putCells id 0 F cur).toList.take F.size = F.toList := by
  apply List.ext_getElem?
  intro j
  by_cases hj : j < F.size
  · rw [List.getElem?_take_of_lt hj, Array.getElem?_toList]
    simp [putCells, hj, show j < cur.size by omega]
  · rw [List.getElem?_take_eq_none (by omega), List.getElem?_eq_none (by simp; omega)]
end
theorem reverse_call {α : Type} [Inhabited α] {enc : α → List Value} {P : Program} {ρ : Ren} (L : SlLaysE0.n35 P ρ) (aE : ∀ w, (isAgg (ρ.t 23)).run P w = .ok true w) (zE : ∀ w, (Go.sizeOf (ρ.t 23)).run P w = .ok 2 w) (hk : ∀ x, (enc x).length = 2) (h1 : ∀ x, ∀ v ∈ enc x, v.oneCell' = true)
    (d : Kd α) (hsz : d.sz = 2) (hM1 : ∀ (w : World) (base : Nat) (ok : Nat → Prop) (x : α) (cs : List Value), d.M w base ok x cs → cs = enc x) (hM2 : ∀ (w : World) (base : Nat) (ok : Nat → Prop) (x : α), d.M w base ok x (enc x))
    {e base : Nat} {w : World} {A : Option Addr} {c : Nat} {l : List α} (h : d.R e w base (fun _ => True) (.slice A l.length c) l) (hl : l.length ≤ 1000000000) :
    Calls P (ρ.f 35) #[.slice A l.length c] w fun ee w' => ee = .returned (.tuple #[]) ∧ d.R e w' base (fun _ => True) (.slice A l.length c) l.reverse ∧ w.grownBy w' (Value.slice A l.length c).ownBlock := by
  by_cases hl0 : l.length = 0
  · have := List.length_eq_zero_iff.1 hl0
    subst this
    refine (AnyQ.slices_Reverse_empty L A c w).mono fun e' w' hh => ?_
    obtain ⟨rfl, rfl⟩ := hh
    exact ⟨rfl, h, ⟨rfl, rfl, rfl, Nat.le_refl _, fun _ _ _ => rfl⟩⟩
  · obtain ⟨h0, inner, ho, hr⟩ := h
    rcases ho.2 with ⟨hv, _⟩ | ⟨g, cap, cur, hv, hg, hb, hn, hcap, hcs, ht⟩
    · injection hv with _ e2 _
      exact absurd e2 hl0
    · injection hv with e1 _ e2
      subst e1
      subst e2
      rw [hsz] at hcs ht
      have hin : inner = (flatK enc 2 l.toArray).toList := flat_of hk l inner (by rw [hr.1, hsz]) (fun j p hj => by
        have := hr.2 j p hj
        rw [hsz] at this
        exact hM1 _ _ _ _ _ this)
      have hfs : (flatK enc 2 l.toArray).size = l.length * 2 := by rw [size_flatK, List.size_toArray]
      have hfr : (flatK enc 2 l.reverse.toArray).size = l.length * 2 := by rw [size_flatK, List.size_toArray, List.length_reverse]
      have hH : HoldsK enc 2 w g 0 l.toArray := holds_flat hb _ (by rw [hfs, ht, hin])
      have hcall := AnyQ.slices_Reverse L 2 aE zE enc hk h1 g 0 c l.toArray w hH (by rw [List.size_toArray]; omega)
      rw [List.size_toArray] at hcall
      refine hcall.mono fun e' w' hh => ?_
      obtain ⟨rfl, n, rfl⟩ := hh
      rw [show l.toArray.reverse = l.reverse.toArray by simp]
      have hlc : l.length * 2 ≤ cur.size := by rw [hcs]; omega
      refine ⟨rfl, ⟨fun _ _ => trivial, (flatK enc 2 l.reverse.toArray).toList, ⟨?_, .inr ⟨g, c, _, by rw [List.length_reverse], hg, heap_put _ hb, by rw [List.length_reverse]; exact hn, hcap, ?_, ?_⟩⟩, ?_⟩, ?_⟩
      · rw [hsz, Array.length_toList, hfr, List.length_reverse]
      · rw [hsz]
        simp [putCells, hcs]
      · rw [hsz, List.length_reverse, ← hfr]
        exact take_put cur _ (by rw [hfr]; exact hlc)
      · refine ⟨by rw [hsz, Array.length_toList, hfr, List.length_reverse], fun j p hj => ?_⟩
        rw [hsz, flat_at hk _ j p hj]
        exact hM2 _ _ _ _
      · exact grown_put _
end Go.Proofs.YtjgijaocinpkhaaDoor.Rev
