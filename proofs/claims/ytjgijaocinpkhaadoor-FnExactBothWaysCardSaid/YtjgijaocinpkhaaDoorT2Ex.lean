/- A region that draws its order, where several operations may come up that write: its states are told by a finite table, what holds in each state is kept by each operation. For all programs. -/
import Derived.Test.YtjgijaocinpkhaaDoorT2WLast
import Derived.KernelRfl
namespace Go.Proofs.YtjgijaocinpkhaaDoor.Ex
open Go Go.RowKit Go.Proofs Go.Proofs.YtjgijaocinpkhaaDoorW.PrintLast
section
variable {P : Program} {ops : Array Oper} {Q : Exit → Act → World → Prop} {md : Region.Mode} {S : World → Prop} {ds : List Nat} {σ : Type} [DecidableEq σ]
/-- the table: from each state the operations that may come up, each with the state behind it -/
def tabB (md : Region.Mode) (ops : Array Oper) (all : List σ) (L : σ → Array Bool) (nx : σ → List (Nat × σ)) (rk : σ → Nat) : Bool :=
  all.all fun s => ((nx s).isEmpty && rk s == 0) || (!(nx s).isEmpty && Region.ready md ops (L s) == (nx s).map (·.1) && (nx s).all fun p => (L s).setIfInBounds p.1 true == L p.2 && all.contains p.2 && rk s == rk p.2 + 1)
theorem explore_ (all : List σ) (L : σ → Array Bool) (nx : σ → List (Nat × σ)) (rk : σ → Nat) (ht : tabB md ops all L nx rk = true) (R : σ → Act → World → Prop) (f : Nat)
    (hstep : ∀ s a w, s ∈ all → R s a w → ∀ p ∈ nx s, wpOp P ops Q p.1 (fun a' w' => R p.2 a' w' ∧ (p.1 ∉ ds → S w → S w')) a w)
    (hend : ∀ s a w, s ∈ all → rk s = 0 → R s a w → wpAnyLast P md ops Q S ds f (L s) a w) :
    ∀ (n : Nat) (s : σ) (a : Act) (w : World), s ∈ all → rk s = n → R s a w → wpAnyLast P md ops Q S ds (f + n) (L s) a w
  | 0, s, a, w, hs, hr, h => hend s a w hs hr h
  | n + 1, s, a, w, hs, hr, h => by
    have h1 := List.all_eq_true.1 ht s hs
    rw [Bool.or_eq_true, Bool.and_eq_true, Bool.and_eq_true, Bool.and_eq_true] at h1
    rcases h1 with h1 | ⟨⟨h0, h2⟩, h3⟩
    · have := h1.2
      rw [beq_iff_eq, hr] at this
      cases this
    · rw [beq_iff_eq] at h2
      have h4 := List.all_eq_true.1 h3
      have hne : (nx s).map (·.1) ≠ [] := fun e => by
        rw [List.map_eq_nil_iff.1 e] at h0
        cases h0
      refine wpAnyLast_all h2 hne (fun i hi => ?_)
      obtain ⟨p, hp, rfl⟩ := List.mem_map.1 hi
      have h5 := h4 p hp
      rw [Bool.and_eq_true, Bool.and_eq_true, beq_iff_eq, beq_iff_eq] at h5
      obtain ⟨⟨h6, h7⟩, h8⟩ := h5
      rw [h6]
      refine wpOp_mono (fun a' w' h' => ⟨fun hd hw => h'.2 hd hw, ?_⟩) (hstep s a w hs h p hp)
      exact explore_ all L nx rk ht R f hstep hend n p.2 a' w' (by simpa using h7) (by omega) h'.1
end
end Go.Proofs.YtjgijaocinpkhaaDoor.Ex
