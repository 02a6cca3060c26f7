/- A map from texts to texts: the texts of a list, each with what a function says. Laws at the operations, for all programs. -/
import Derived.Test.YtpelhinjoambfaaPm
import Derived.Test.YtpelhinjoambfaaUf
import Derived.Maps.StringElems
namespace Go.Proofs.Ytpelhinjoambfaa.Mt
open Go Go.RowKit Go.Maps Go.WideMaps Go.Proofs Go.Proofs.Ytpelhinjoambfaa.Pm Go.Proofs.Ytpelhinjoambfaa.Uf

theorem tight {P : Program} {K : TypeId} {R : Value → Option (DataW Unit × List MemPlace)} {w : World} {b n : Nat} {D : DataW Unit} (h : w.ownsMap P K R b n D) : w.ownsMap P K R b (Maps.size D) D := by
  obtain ⟨es, clock, hb, F, hs, rfl⟩ := h
  exact ⟨es, clock, hb, F, by simp [Maps.size, length_sorted], rfl⟩
/-- block b is a map that has the texts of N, each with the text that U says -/
def MapT (P : Program) (K : TypeId) (w : World) (b : Nat) (N : List ByteArray) (U : ByteArray → ByteArray) : Prop :=
  ∃ D : DataW Unit, w.ownsMap P K (plainElem P K) b (Maps.size D) D ∧ Maps.size D = N.length ∧ (∀ s : ByteArray, Maps.has D (.string s.data.toList) = inN s N) ∧
    ∀ s ∈ N, ∀ z, D.atKey (.string s.data.toList) z = .lit (.string (U s).data.toList)
section
variable {P : Program} {K T : TypeId} {w w1 : World} {b : Nat} {N : List ByteArray} {U : ByteArray → ByteArray}
theorem MapT.made (w : World) (U : ByteArray → ByteArray) : MapT P K (w.alloc (.map #[] 0)) w.heap.size [] U :=
  ⟨.map [], World.ownsMap_made w P K _, rfl, fun _ => rfl, fun s h => by cases h⟩
theorem MapT.block (h : MapT P K w b N U) : ∃ es clock, w.heap[b]? = some (.map es clock) := by
  obtain ⟨D, ⟨es, clock, hb, _⟩, _⟩ := h
  exact ⟨es, clock, hb⟩
theorem MapT.move (h : MapT P K w b N U) (hb : w1.heap[b]? = w.heap[b]?) : MapT P K w1 b N U := by
  obtain ⟨D, ⟨es, clock, h1, F⟩, r⟩ := h
  exact ⟨D, ⟨es, clock, hb.trans h1, F⟩, r⟩
theorem MapT.below (h : MapT P K w b N U) (hb : Below w.heap.size w w1) : MapT P K w1 b N U := by
  obtain ⟨es, clock, h1⟩ := h.block
  exact h.move (hb.block b (Array.getElem?_eq_some_iff.1 h1).1)
theorem MapT.lt (h : MapT P K w b N U) : b < w.heap.size := by
  obtain ⟨es, clock, h1⟩ := h.block
  exact (Array.getElem?_eq_some_iff.1 h1).1
theorem MapT.kept {row : Option Nat} (h : MapT P K w b N U) (hg : w.grownBy w1 row) (hne : some b ≠ row) : MapT P K w1 b N U := h.move (hg.block b h.lt hne)
theorem MapT.ne_cells (h : MapT P K w b N U) {g t : Nat} {cs : Array Value} (hb : w.heap[g]? = some (.cells cs t (0, 0))) : b ≠ g := by
  obtain ⟨es, clock, h1⟩ := h.block
  rintro rfl
  rw [h1] at hb
  cases hb
theorem MapT.set (h : MapT P K w b N U) {g : Nat} (hne : b ≠ g) (j : Nat) (u : Value) : MapT P K (w.setCell ⟨g, j, none⟩ u) b N U :=
  h.move (Below.heap_setCell w ⟨g, j, none⟩ u b hne)
theorem MapT.look1 (h : MapT P K w b N U) (hK : P.underlying K = some .string) (hT : P.underlying T = some (.map K K)) (hz : (zeroValue K).run P w = .ok (.string ByteArray.empty) w) (s : ByteArray) (hs : s.size ≤ maxLen) (hi : s ∈ N) :
    (Instr.lookup T (.map (some b)) (.string s) false).run P w = .ok (.string (U s)) w := by
  obtain ⟨D, ho, hsz, hh, ha⟩ := h
  obtain ⟨v, ps, hrun, hv⟩ := ho.lookup (string_keyed hK) hT hz (plainElem_string hK (by decide)) (keyOf_string_mk hK hs)
  rw [ha s hi] at hv
  obtain ⟨s', rfl, he, _⟩ := plainElem_string_inv hK hv
  have e : (U s).data.toList = s'.data.toList := by
    have h1 := congrArg Prod.fst he
    injection h1 with h1
    injection h1
  rw [hrun, ← Lib.mk_data s', ← e, Lib.mk_data]
theorem MapT.put_old (h : MapT P K w b N U) (hK : P.underlying K = some .string) (hT : P.underlying T = some (.map K K)) (s v : ByteArray) (hs : s.size ≤ maxLen) (hv : v.size ≤ maxLen) (hN : N.length < 4611686018427387904) (hin : s ∈ N) :
    ∃ w', (Instr.mapUpdate T (.map (some b)) (.string s) (.string v)).run P w = .ok () w' ∧ MapT P K w' b N (upd U s v) ∧ w.grownBy w' (some b) := by
  obtain ⟨D, ho, hsz, hh, ha⟩ := h
  have hD := ho.tidy (string_keyed hK)
  obtain ⟨w', hrun, ho', hg⟩ := ho.update (string_keyed hK) hT (by rw [hsz]; unfold maxLen; omega) (keyOf_string_mk hK hs) (plainElem_string hK hv)
  have hsk : WideAt.IsKeyLit (.string s.data.toList) := trivial
  have hne : ∀ s' : ByteArray, s' ≠ s → (Lit.string s'.data.toList) ≠ .string s.data.toList := fun s' h e => h (by
    injection e with e
    rw [← Lib.mk_data s', e, Lib.mk_data])
  refine ⟨w', hrun, ⟨_, tight ho', ?_, fun s' => ?_, fun s' hi z => ?_⟩, hg⟩
  · rw [size_put hD, hh s, inN_iff.2 hin, if_pos rfl, hsz]
  · by_cases e : s' = s
    · subst e
      rw [has_put_same hD.isMap hsk, inN_iff.2 hin]
    · rw [has_put_other (hne s' e), hh s']
  · by_cases e : s' = s
    · subst e
      rw [atKey_put_same hD.isMap hsk, upd_same]
    · rw [atKey_put_other (hne s' e), ha s' hi, upd_ne U v e]
theorem MapT.put_new (h : MapT P K w b N U) (hK : P.underlying K = some .string) (hT : P.underlying T = some (.map K K)) (s v : ByteArray) (hs : s.size ≤ maxLen) (hv : v.size ≤ maxLen) (hN : N.length < 4611686018427387904) (hin : s ∉ N) :
    ∃ w', (Instr.mapUpdate T (.map (some b)) (.string s) (.string v)).run P w = .ok () w' ∧ MapT P K w' b (N ++ [s]) (upd U s v) ∧ w.grownBy w' (some b) := by
  obtain ⟨D, ho, hsz, hh, ha⟩ := h
  have hD := ho.tidy (string_keyed hK)
  obtain ⟨w', hrun, ho', hg⟩ := ho.update (string_keyed hK) hT (by rw [hsz]; unfold maxLen; omega) (keyOf_string_mk hK hs) (plainElem_string hK hv)
  have hsk : WideAt.IsKeyLit (.string s.data.toList) := trivial
  have hne : ∀ s' : ByteArray, s' ≠ s → (Lit.string s'.data.toList) ≠ .string s.data.toList := fun s' h e => h (by
    injection e with e
    rw [← Lib.mk_data s', e, Lib.mk_data])
  refine ⟨w', hrun, ⟨_, tight ho', ?_, fun s' => ?_, fun s' hi z => ?_⟩, hg⟩
  · rw [size_put hD, hh s, inN_no.2 hin, if_neg (by decide), hsz, List.length_append, List.length_singleton]
  · by_cases e : s' = s
    · subst e
      rw [has_put_same hD.isMap hsk, inN_snoc]
      simp
    · rw [has_put_other (hne s' e), hh s', inN_snoc]
      simp [e]
  · by_cases e : s' = s
    · subst e
      rw [atKey_put_same hD.isMap hsk, upd_same]
    · have hi' : s' ∈ N := by
        rcases List.mem_append.1 hi with h | h
        · exact h
        · exact absurd (List.mem_singleton.1 h) e
      rw [atKey_put_other (hne s' e), ha s' hi', upd_ne U v e]
/-- a text that may stand there already -/
def addN (N : List ByteArray) (s : ByteArray) : List ByteArray := if inN s N = true then N else N ++ [s]
theorem MapT.put (h : MapT P K w b N U) (hK : P.underlying K = some .string) (hT : P.underlying T = some (.map K K)) (s v : ByteArray) (hs : s.size ≤ maxLen) (hv : v.size ≤ maxLen) (hN : N.length < 4611686018427387904) :
    ∃ w', (Instr.mapUpdate T (.map (some b)) (.string s) (.string v)).run P w = .ok () w' ∧ MapT P K w' b (addN N s) (upd U s v) ∧ w.grownBy w' (some b) := by
  unfold addN
  split
  · rename_i hin
    exact h.put_old hK hT s v hs hv hN (inN_iff.1 hin)
  · rename_i hin
    exact h.put_new hK hT s v hs hv hN (fun hm => hin (inN_iff.2 hm))
theorem addN_le (N : List ByteArray) (s : ByteArray) : (addN N s).length ≤ N.length + 1 := by
  unfold addN
  split
  · omega
  · rw [List.length_append, List.length_singleton]; omega
theorem addN_all : ∀ (l N : List ByteArray), (N ++ l).Nodup → l.foldl addN N = N ++ l
  | [], N, _ => by rw [List.append_nil]; rfl
  | s :: l, N, h => by
    have hs : s ∉ N := fun hm => by
      have := (List.nodup_append.1 h).2.2 s hm s List.mem_cons_self
      exact this rfl
    rw [List.foldl_cons, show addN N s = N ++ [s] from if_neg (fun h => hs (inN_iff.1 h)), addN_all l (N ++ [s]) (by rw [List.append_assoc]; exact h), List.append_assoc]
    rfl
theorem MapT.congr (h : MapT P K w b N U) {U' : ByteArray → ByteArray} (hU : ∀ s ∈ N, U' s = U s) : MapT P K w b N U' := by
  obtain ⟨D, h1, h2, h3, h4⟩ := h
  exact ⟨D, h1, h2, h3, fun s hs z => by rw [hU s hs]; exact h4 s hs z⟩
end
end Go.Proofs.Ytpelhinjoambfaa.Mt
