/- Texts in order, each once, and one more among them. Plain facts, for all lists of texts. -/
import Derived.Sort.Walk0
import Derived.Lib.Strings
import Derived.Test.YtjgijaocinpkhaaDoorT2Bfs
namespace Go.Proofs.YtjgijaocinpkhaaDoor.Srts
open Go Go.Lib Go.Proofs
/-- one text comes before another -/
def lsB (x y : ByteArray) : Bool := Op.bytesLess x.toList y.toList
theorem tl_inj {x y : ByteArray} (h : x.toList = y.toList) : x = y := by
  rw [ByteArray.toList_eq, ByteArray.toList_eq] at h
  cases x
  cases y
  congr 1
  exact Array.toList_inj.1 h
theorem lsB_irrefl (x : ByteArray) : lsB x x = false := by
  unfold lsB
  rw [bytesLess_eq]
  simp
theorem ls_total : ∀ (x y : List UInt8), Op.bytesLess x y = false → Op.bytesLess y x = true ∨ x = y
  | [], [], _ => .inr rfl
  | _ :: _, [], _ => .inl rfl
  | [], _ :: _, h => by simp [Op.bytesLess] at h
  | a :: x, b :: y, h => by
    simp only [Op.bytesLess, Bool.or_eq_false_iff, Bool.and_eq_false_iff, decide_eq_false_iff_not, beq_eq_false_iff_ne] at h
    obtain ⟨h1, h2⟩ := h
    by_cases e : a = b
    · subst e
      rcases h2 with h2 | h2
      · exact absurd rfl h2
      · rcases ls_total x y h2 with h3 | h3
        · exact .inl (by simp [Op.bytesLess, h3])
        · exact .inr (by rw [h3])
    · refine .inl ?_
      have h3 : b < a := by
        rw [UInt8.lt_iff_toNat_lt] at h1 ⊢
        have h4 : a.toNat ≠ b.toNat := fun h5 => e (UInt8.toNat_inj.1 h5)
        omega
      simp [Op.bytesLess, h3]
theorem lsB_total {x y : ByteArray} (h : lsB x y = false) (hne : x ≠ y) : lsB y x = true := by
  rcases ls_total _ _ h with h | h
  · exact h
  · exact absurd (tl_inj h) hne
theorem lsB_trans {x y z : ByteArray} (h : lsB x y = true) (h' : lsB y z = true) : lsB x z = true := by
  unfold lsB at *
  rw [bytesLess_eq, decide_eq_true_eq] at *
  exact List.lt_trans h h'
/-- texts in order, each once -/
def Srt (l : List ByteArray) : Prop := l.Pairwise fun a b => lsB a b = true
/-- in order, with one more -/
theorem ins_srt {l : List ByteArray} (hs : Srt l) {y : ByteArray} {lo : Nat} (h1 : ∀ j x, l[j]? = some x → j < lo → lsB x y = true) (h2 : ∀ j x, l[j]? = some x → lo ≤ j → lsB x y = false) (hn : l[lo]? ≠ some y) :
    y ∉ l ∧ Srt (l.take lo ++ [y] ++ l.drop lo) ∧ ∀ x, x ∈ l.take lo ++ [y] ++ l.drop lo ↔ x = y ∨ x ∈ l := by
  have hp := List.pairwise_iff_getElem.1 hs
  have hno : y ∉ l := fun hy => by
    obtain ⟨j, hj⟩ := List.mem_iff_getElem?.1 hy
    rcases Nat.lt_trichotomy j lo with h | h | h
    · have := h1 j y hj h
      rw [lsB_irrefl] at this
      cases this
    · subst h
      exact hn hj
    · obtain ⟨hjl, hje⟩ := List.getElem?_eq_some_iff.1 hj
      have h3 := hp lo j (by omega) hjl h
      rw [hje] at h3
      have h4 := h2 lo _ (List.getElem?_eq_getElem (by omega)) (Nat.le_refl _)
      rw [h3] at h4
      cases h4
  have e := List.take_append_drop lo l
  have hs2 := hs
  unfold Srt at hs2
  rw [← e, List.pairwise_append] at hs2
  obtain ⟨p1, p2, p3⟩ := hs2
  have q1 : ∀ x ∈ l.take lo, lsB x y = true := fun x hx => by
    obtain ⟨j, hj⟩ := List.mem_iff_getElem?.1 hx
    rw [List.getElem?_take] at hj
    split at hj
    · exact h1 j x hj (by assumption)
    · cases hj
  have q2 : ∀ x ∈ l.drop lo, lsB y x = true := fun x hx => by
    have hm := List.mem_of_mem_drop hx
    obtain ⟨j, hj⟩ := List.mem_iff_getElem?.1 hx
    rw [List.getElem?_drop] at hj
    exact lsB_total (h2 _ x hj (Nat.le_add_right _ _)) (fun e => hno (e ▸ hm))
  refine ⟨hno, ?_, fun x => ?_⟩
  · unfold Srt
    rw [List.append_assoc, List.pairwise_append]
    refine ⟨p1, List.pairwise_cons.2 ⟨q2, p2⟩, fun a ha b hb => ?_⟩
    rcases List.mem_cons.1 hb with rfl | hb
    · exact q1 a ha
    · exact p3 a ha b hb
  · rw [List.append_assoc, List.mem_append, List.singleton_append, List.mem_cons]
    have : x ∈ l ↔ x ∈ l.take lo ∨ x ∈ l.drop lo := by rw [← List.mem_append, e]
    rw [this]
    constructor
    · rintro (h | h | h)
      · exact .inr (.inl h)
      · exact .inl h
      · exact .inr (.inr h)
    · rintro (h | h | h)
      · exact .inr (.inl h)
      · exact .inl h
      · exact .inr (.inr h)
/-- the same texts in order -/
structure Fs {β : Type} (E : List (Bfs.Ent ByteArray β)) (F : List ByteArray) : Prop where
  srt : Srt F
  mem : ∀ x, x ∈ F ↔ x ∈ Bfs.nodes E
  len : F.length = E.length
  most : E.length ≤ 1000000
  nd : (Bfs.nodes E).Nodup
theorem Fs.snoc {β : Type} {E : List (Bfs.Ent ByteArray β)} {F r : List ByteArray} (h : Fs E F) {y : ByteArray} {i : Int} {m : β} {d : Nat} (hl : E.length < 1000000) (hn : y ∉ Bfs.nodes E) (h1 : r.length = F.length + 1) (h2 : Srt r) (h3 : ∀ x, x ∈ r ↔ x = y ∨ x ∈ F) : Fs (E ++ [⟨y, i, m, d⟩]) r := by
  have n0 : Bfs.nodes (E ++ [(⟨y, i, m, d⟩ : Bfs.Ent ByteArray β)]) = Bfs.nodes E ++ [y] := by simp [Bfs.nodes]
  refine ⟨h2, fun x => ?_, by rw [h1, h.len, List.length_append, List.length_singleton], by rw [List.length_append, List.length_singleton]; omega, ?_⟩
  · rw [h3, n0, List.mem_append, List.mem_singleton, h.mem, or_comm]
  · rw [n0]
    refine List.nodup_append.2 ⟨h.nd, by simp, fun a ha b hb e => ?_⟩
    rw [List.mem_singleton] at hb
    subst hb
    exact hn (e ▸ ha)
end Go.Proofs.YtjgijaocinpkhaaDoor.Srts
