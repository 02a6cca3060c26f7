/- A map from texts to places: the texts of a list, each with its place. Laws at the operations, for all programs. -/
import Derived.Maps.OwnSet
import Derived.Maps.AppendAt
import Derived.WalkKit
import Derived.StringKeys
import Derived.Lib.Strings
namespace Go.Proofs.Ytpelhinjoambfaa.Pm
open Go Go.RowKit Go.Maps Go.WideMaps Go.Proofs

/-- whether something is on a list -/
def inN {α : Type} [DecidableEq α] (s : α) (N : List α) : Bool := decide (s ∈ N)
theorem inN_iff {α : Type} [DecidableEq α] {s : α} {N : List α} : inN s N = true ↔ s ∈ N := by unfold inN; exact decide_eq_true_iff
theorem inN_no {α : Type} [DecidableEq α] {s : α} {N : List α} : inN s N = false ↔ s ∉ N := by unfold inN; exact decide_eq_false_iff_not
theorem inN_snoc {α : Type} [DecidableEq α] {s x : α} {N : List α} : inN s (N ++ [x]) = (inN s N || decide (s = x)) := by unfold inN; simp

/-- block b is a map that has the texts of N, each with its place -/
def MapIs (P : Program) (K E : TypeId) (w : World) (b : Nat) (N : List ByteArray) : Prop :=
  ∃ (n : Nat) (D : DataW Unit), n ≤ N.length ∧ w.ownsMap P K (plainElem P E) b n D ∧ IsMap D ∧ (∀ s : ByteArray, Maps.has D (.string s.data.toList) = inN s N) ∧
    ∀ (s : ByteArray) (i : Nat), N[i]? = some s → ∀ z, D.atKey (.string s.data.toList) z = .lit (.int .i64 (i : Int))
section
variable {P : Program} {K E T : TypeId} {w w1 : World} {b : Nat} {N : List ByteArray}
theorem MapIs.made (w : World) : MapIs P K E (w.alloc (.map #[] 0)) w.heap.size [] :=
  ⟨0, .map [], Nat.le_refl _, World.ownsMap_made w P K _, isMap_empty, fun _ => rfl, fun s i h => by simp at h⟩
theorem MapIs.kept {row : Option Nat} (h : MapIs P K E w b N) (hg : w.grownBy w1 row) (hne : some b ≠ row) : MapIs P K E w1 b N := by
  obtain ⟨n, D, hn, ho, r⟩ := h
  exact ⟨n, D, hn, ho.kept hg hne, r⟩
theorem MapIs.alloc (h : MapIs P K E w b N) (o : Obj) : MapIs P K E (w.alloc o) b N := h.kept (World.grownBy_alloc w o none) (by simp)
theorem MapIs.drew (h : MapIs P K E w b N) : MapIs P K E w.drew b N := h
theorem MapIs.block (h : MapIs P K E w b N) : ∃ es clock, w.heap[b]? = some (.map es clock) := by
  obtain ⟨n, D, hn, ⟨es, clock, hb, _⟩, _⟩ := h
  exact ⟨es, clock, hb⟩
theorem MapIs.move (h : MapIs P K E w b N) (hb : w1.heap[b]? = w.heap[b]?) : MapIs P K E w1 b N := by
  obtain ⟨n, D, hn, ⟨es, clock, h1, F⟩, r⟩ := h
  exact ⟨n, D, hn, ⟨es, clock, hb.trans h1, F⟩, r⟩
theorem MapIs.below (h : MapIs P K E w b N) (hb : Below w.heap.size w w1) : MapIs P K E w1 b N := by
  obtain ⟨es, clock, h1⟩ := h.block
  exact h.move (hb.block b (Array.getElem?_eq_some_iff.1 h1).1)
theorem MapIs.ne_cells (h : MapIs P K E w b N) {g t : Nat} {cs : Array Value} (hb : w.heap[g]? = some (.cells cs t (0, 0))) : b ≠ g := by
  obtain ⟨es, clock, h1⟩ := h.block
  rintro rfl
  rw [h1] at hb
  cases hb
theorem MapIs.set (h : MapIs P K E w b N) {g : Nat} (hne : b ≠ g) (j : Nat) (u : Value) : MapIs P K E (w.setCell ⟨g, j, none⟩ u) b N :=
  h.move (Below.heap_setCell w ⟨g, j, none⟩ u b hne)
theorem MapIs.look (h : MapIs P K E w b N) (hK : P.underlying K = some .string) (hT : P.underlying T = some (.map K E)) (hE : P.underlying E = some (.int .i64)) (hz : (zeroValue E).run P w = .ok (.int .i64 0) w) (s : ByteArray) (hs : s.size ≤ maxLen) :
    ∃ c : Int, (Instr.lookup T (.map (some b)) (.string s) true).run P w = .ok (.tuple #[.int .i64 c, .bool (inN s N)]) w ∧ ∀ i : Nat, N[i]? = some s → c = (i : Int) := by
  obtain ⟨n, D, hn, ho, hD, hh, ha⟩ := h
  obtain ⟨v, ps, hrun, hv⟩ := ho.look_ok (string_keyed hK) hT hz (plainElem_int hE (by decide)) (keyOf_string_mk hK hs)
  obtain ⟨c, rfl, hc, hwc⟩ := plainElem_int_inv hE hv
  refine ⟨c, by rw [hrun, hh s], fun i hi => ?_⟩
  have h1 := congrArg Prod.fst hc
  simp only at h1
  rw [ha s i hi] at h1
  injection h1 with h1
  injection h1 with _ h1
  exact h1.symm
theorem MapIs.look1 (h : MapIs P K E w b N) (hK : P.underlying K = some .string) (hT : P.underlying T = some (.map K E)) (hE : P.underlying E = some (.int .i64)) (hz : (zeroValue E).run P w = .ok (.int .i64 0) w) (s : ByteArray) (hs : s.size ≤ maxLen) (i : Nat) (hi : N[i]? = some s) :
    (Instr.lookup T (.map (some b)) (.string s) false).run P w = .ok (.int .i64 (i : Int)) w := by
  obtain ⟨n, D, hn, ho, hD, hh, ha⟩ := h
  obtain ⟨c, hrun, hat, _⟩ := ho.lookup_int (string_keyed hK) hT hE hz (keyOf_string_mk hK hs)
  rw [ha s i hi] at hat
  injection hat with hat
  injection hat with _ hat
  rw [hrun, hat]
theorem MapIs.put (h : MapIs P K E w b N) (hK : P.underlying K = some .string) (hT : P.underlying T = some (.map K E)) (hE : P.underlying E = some (.int .i64)) (s : ByteArray) (hs : s.size ≤ maxLen) (hN : N.length < 4611686018427387904) (hnot : s ∉ N) :
    ∃ w', (Instr.mapUpdate T (.map (some b)) (.string s) (.int .i64 (N.length : Int))).run P w = .ok () w' ∧ MapIs P K E w' b (N ++ [s]) ∧ w.grownBy w' (some b) := by
  obtain ⟨n, D, hn, ho, hD, hh, ha⟩ := h
  have hwf : (Lit.int .i64 (N.length : Int)).wf = true := WalkArith.wf_i64 ⟨by omega, by omega⟩
  obtain ⟨w', hrun, ho', hg⟩ := ho.update (string_keyed hK) hT (Nat.lt_of_le_of_lt hn (by unfold maxLen; omega)) (keyOf_string_mk hK hs) (plainElem_int hE hwf)
  have hsk : WideAt.IsKeyLit (.string s.data.toList) := trivial
  have hne : ∀ s' : ByteArray, s' ≠ s → (Lit.string s'.data.toList) ≠ .string s.data.toList := fun s' h e => h (by
    injection e with e
    rw [← Lib.mk_data s', e, Lib.mk_data])
  refine ⟨w', hrun, ⟨n + 1, _, by rw [List.length_append, List.length_singleton]; omega, ho', hD.put _ _, fun s' => ?_, fun s' i hi z => ?_⟩, hg⟩
  · by_cases e : s' = s
    · subst e
      rw [has_put_same hD hsk, inN_snoc]
      simp
    · rw [has_put_other (hne s' e), hh s', inN_snoc]
      simp [e]
  · by_cases e : i < N.length
    · rw [List.getElem?_append_left e] at hi
      have h1 : s' ≠ s := fun e => hnot (e ▸ List.mem_of_getElem? hi)
      rw [atKey_put_other (hne s' h1), ha s' i hi]
    · have e1 : i = N.length := by
        have := (List.getElem?_eq_some_iff.1 hi).1
        rw [List.length_append, List.length_singleton] at this
        omega
      subst e1
      simp at hi
      subst hi
      rw [atKey_put_same hD hsk]
end
end Go.Proofs.Ytpelhinjoambfaa.Pm
