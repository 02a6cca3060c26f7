/- Moves that are played one behind the other: where it stops, for all rules that tell what can be made. -/
import Derived.Test.YtgiphajcffambaaDoorXU0
import Derived.Test.YtgiphajcffambaaDoorXU2
import Derived.Test.YtgiphajcffambaaDoorXU3
import Derived.Test.YtgiphajcffambaaDoorXU5
import Derived.Test.YtgiphajcffambaaDoorLUmake
import Derived.Test.YtgiphajcffambaaDoorLUtomove
import Derived.Test.YtgiphajcffambaaDoorLUeqmove
namespace Go.Proofs.YtgiphajcffambaaDoor.XU
set_option linter.unusedVariables false
set_option linter.unusedSimpArgs false
open Go Go.RowKit Go.Proofs.YtgiphajcffambaaDoorW.PrintWords Go.Proofs.YtgiphajcffambaaDoorB

/-- the text at which it stops, and how many moves were made -/
def stop (c : ByteArray → Int → Int → Bool) : List S46 → ByteArray → Nat → ByteArray × Nat
  | [], s, i => (s, i)
  | m :: l, s, i => if c s m.f0 m.f1 = true then stop c l (mv s m.f0 m.f1) (i + 1) else (s, i)
theorem stop_yes {c : ByteArray → Int → Int → Bool} {m : S46} {l : List S46} {s : ByteArray} {i : Nat} (h : c s m.f0 m.f1 = true) : stop c (m :: l) s i = stop c l (mv s m.f0 m.f1) (i + 1) := by rw [stop, if_pos h]
theorem stop_no {c : ByteArray → Int → Int → Bool} {m : S46} {l : List S46} {s : ByteArray} {i : Nat} (h : ¬ c s m.f0 m.f1 = true) : stop c (m :: l) s i = (s, i) := by rw [stop, if_neg h]
theorem stop_le (c : ByteArray → Int → Int → Bool) : ∀ (l : List S46) (s : ByteArray) (i : Nat), i ≤ (stop c l s i).2 ∧ (stop c l s i).2 ≤ i + l.length
  | [], _, i => by simp [stop]
  | m :: l, s, i => by
    unfold stop
    split
    · have := stop_le c l (mv s m.f0 m.f1) (i + 1)
      rw [List.length_cons]
      omega
    · simp
/-- what the program makes of it -/
def ends (c : ByteArray → Int → Int → Bool) (l : List S46) (s : ByteArray) (i : Nat) : ByteArray × Int := (if (stop c l s i).2 = i + l.length then (stop c l s i).1 else ⟨#[]⟩, ((stop c l s i).2 : Int))
theorem playL_eq (I : ByteArray → Prop) (c' : ByteArray → Int → Int → Option Bool) (c : ByteArray → Int → Int → Bool) (hc : ∀ s f t, I s → c' s f t = some (c s f t))
    (hm : ∀ s f t, I s → c s f t = true → impl_made.f s f t = some (mv s f t) ∧ I (mv s f t)) : ∀ (l : List S46) (s : ByteArray) (i : Nat), I s → playL c' l s i = some (ends c l s i)
  | [], s, i, _ => by simp [playL, ends, stop]
  | m :: l, s, i, hI => by
    unfold playL
    rw [hc s m.f0 m.f1 hI]
    simp only [Option.bind_some]
    by_cases h : c s m.f0 m.f1 = true
    · obtain ⟨h1, h2⟩ := hm s m.f0 m.f1 hI h
      rw [if_pos h, h1]
      simp only [Option.bind_some]
      rw [playL_eq I c' c hc hm l (mv s m.f0 m.f1) (i + 1) h2]
      unfold ends
      have e : stop c (m :: l) s i = stop c l (mv s m.f0 m.f1) (i + 1) := by rw [stop, if_pos h]
      rw [e, List.length_cons, show i + 1 + l.length = i + (l.length + 1) from by omega]
    · rw [if_neg h]
      unfold ends
      have e : stop c (m :: l) s i = (s, i) := by rw [stop, if_neg h]
      rw [e, if_neg (by rw [List.length_cons]; simp)]
theorem mv_all {a : ByteArray} (h : a.data.toList.all sgn = true) (f t : Int) (f0 : 0 ≤ f) (f1 : f < (a.size : Int)) : (mv a f t).data.toList.all sgn = true := by
  have hf : f.toNat < a.data.toList.length := by rw [data_length]; omega
  unfold mv
  rw [List.all_eq_true] at h ⊢
  intro x hx
  have hx2 : x ∈ (a.data.toList.set t.toNat (a.data.toList.getD f.toNat 0)).set f.toNat 46 := by simpa using hx
  rcases List.mem_or_eq_of_mem_set hx2 with hx3 | rfl
  · rcases List.mem_or_eq_of_mem_set hx3 with hx4 | rfl
    · exact h x hx4
    · rw [List.getD_eq_getElem?_getD, List.getElem?_eq_getElem hf]
      exact h _ (List.getElem_mem hf)
  · rfl
/-- a law on two answers, behind a list of moves that is held against itself -/
theorem toMoveS_same {l : List S55} {r : List S46} (h : ∀ k, l.length < k → laws_toMoveS.f k l = some r) (hl : r.length = l.length) (h2 : l.length ≤ 10000000) (k : Nat) (hk : l.length + 1 < k) :
    ((laws_toMoveS.f k l).bind fun t => ((laws_eqMoveS.f k r t).bind fun u => (if u = true then (some true) else (some false)))) = some true := by
  rw [h k (by omega)]
  simp only [Option.bind_some]
  rw [eqMoveS_same r (by omega) k (by omega)]
  rfl
theorem szMove_eq (l : List S55) (hl : l.length * 16 ≤ 140737488351232) : laws_szMoveS.f l 1048576 = some (if (1048576 : Int) - (l.length : Int) < 0 then -1 else (1048576 : Int) - (l.length : Int)) := by
  unfold laws_szMoveS.f
  rw [w64 (by omega) (by omega)]
  split <;> rfl
end Go.Proofs.YtgiphajcffambaaDoor.XU
