/- FnLinesRankedOfAll without Go: for all texts that memory holds, all numbers and all lists of moves. -/
import Derived.Test.YtgiphajcffambaaDoorLAall
import Derived.Test.YtgiphajcffambaaDoorXA0
import Derived.Test.YtgiphajcffambaaDoorXA1
import Derived.Test.YtgiphajcffambaaDoorXA10
import Derived.Test.YtgiphajcffambaaDoorXA3
import Derived.Test.YtgiphajcffambaaDoorXA7
import Derived.Test.YtgiphajcffambaaDoorXA8
import Derived.Test.YtgiphajcffambaaDoorXA9
namespace Go.Proofs.YtgiphajcffambaaDoor.Pure
set_option linter.unusedVariables false
set_option linter.unusedSimpArgs false
open Go Go.RowKit Go.Proofs.YtgiphajcffambaaDoorW.PrintWords Go.Proofs.YtgiphajcffambaaDoor.XA Go.Proofs.YtgiphajcffambaaDoorB Go.Proofs.YtgiphajcffambaaDoor.Ranks
theorem line_of {l : List UInt8} (h1 : 1 ≤ l.length) (h2 : l.length ≤ 12) (h : l.all sgn = true) : isLine 12 (⟨l.toArray⟩ : ByteArray) = true := by
  unfold isLine
  rw [lor_size, decide_eq_true h1, decide_eq_true h2]
  simpa using h
theorem mk_eq {s : ByteArray} (h : isLine 12 s = true) {f t : Int} (hc : canB s f t = true) : impl_MakeMove.f s f t = some (mv s f t, true) := by
  obtain ⟨h1, h12, _⟩ := isLine_size h
  unfold impl_MakeMove.f impl_IsLine.f
  rw [show impl_isLineOf.f s 12 = some (isLine 12 s) from isLineOf_eq s 12 (by omega), h]
  simp only [Option.bind_some, if_true]
  rw [line_can s f t ⟨h1, by omega⟩]
  simp only [Option.bind_some]
  rw [if_pos hc, (line_made s f t ⟨h1, by omega⟩ hc).1]
  rfl
theorem can_eq {s : ByteArray} (h : isLine 12 s = true) (f t : Int) : impl_CanMove.f s f t = some (canB s f t, true) := by
  obtain ⟨h1, h12, _⟩ := isLine_size h
  unfold impl_CanMove.f impl_IsLine.f
  rw [show impl_isLineOf.f s 12 = some (isLine 12 s) from isLineOf_eq s 12 (by omega), h]
  simp only [Option.bind_some, if_true]
  rw [line_can s f t ⟨h1, by omega⟩]
  rfl
theorem r_l0 (l : List S46) (hl : l.length ≤ 1000) (en : ByteArray) : ∀ (d i k : Nat) (s : ByteArray), isLine 12 s = true → i + d = l.length → d < k → stop canB (l.drop i) s i = (en, l.length) → laws_FnLinesRankedOfAll.l0 k en s l (l.length : Int) (i : Int) = some true := by
  intro d
  induction d with
  | zero =>
    intro i k s hs hi hk h
    obtain ⟨k, rfl⟩ : ∃ m, k = m + 1 := ⟨k - 1, by omega⟩
    rw [List.drop_of_length_le (by omega), stop] at h
    obtain rfl := congrArg Prod.fst h
    simp only [laws_FnLinesRankedOfAll.l0]
    rw [if_neg (by omega)]
    simp
  | succ d ih =>
    intro i k s hs hi hk h
    obtain ⟨k, rfl⟩ : ∃ m, k = m + 1 := ⟨k - 1, by omega⟩
    have z1 : (i : Int) < (l.length : Int) := by omega
    have z2 : (0 : Int) ≤ (i : Int) := by omega
    rw [rd_drop l i (by omega)] at h
    simp only [laws_FnLinesRankedOfAll.l0]
    rw [if_pos z1, if_pos z2, if_pos z1]
    by_cases hc : canB s (rd_T46 l (i : Int)).f0 (rd_T46 l (i : Int)).f1 = true
    · rw [stop_yes hc] at h
      rw [mk_eq hs hc]
      simp only [Option.bind_some, if_true]
      rw [w64_succ (n := l.length) (by omega) (by omega)]
      exact ih (i + 1) k _ (mv_line hs hc) (by omega) (by omega) h
    · rw [stop_no hc] at h
      have := congrArg Prod.snd h
      simp at this
      omega
theorem r_j6 (v : ByteArray) (hv : v.size ≤ 140737488351232) (l : List S46) (k : Nat) (hk : 200 ≤ k) : laws_FnLinesRankedOfAll.j6 k v l (plA v l).1 (plA v l).2 (mfA v l).1 (mfA v l).2 = some true := by
  obtain ⟨k, rfl⟩ : ∃ m, k = m + 1 := ⟨k - 1, by omega⟩
  simp only [laws_FnLinesRankedOfAll.j6]
  by_cases hL : isLine 12 v = true ∧ l.length ≤ 100
  case neg =>
    have e1 : plA v l = (⟨#[]⟩, false) := if_neg fun h => hL ⟨h.1, h.2.1⟩
    have e2 : mfA v l = (0, false) := if_neg fun h => hL ⟨h.1, h.2.1⟩
    rw [e1, e2]
    rfl
  obtain ⟨hL, hl⟩ := hL
  by_cases he : (stop canB l v 0).2 = l.length
  · have e1 : plA v l = ((stop canB l v 0).1, true) := if_pos ⟨hL, hl, he⟩
    rw [e1]
    simp only [if_true]
    exact r_l0 l (by omega) _ l.length 0 k v hL (by omega) (by omega) (by rw [List.drop_zero]; exact Prod.ext rfl he)
  · have hb := stop_le canB l v 0
    have e1 : plA v l = (⟨#[]⟩, false) := if_neg fun h => he h.2.2
    have e2 : mfA v l = (((stop canB l v 0).2 : Int), true) := if_pos ⟨hL, hl, he⟩
    have hs := stop_line l v 0 hL
    have ht := stop_take canB l v 0 (stop canB l v 0).2 (by omega)
    have hf := stop_fails canB l l.length 0 v (by omega)
    rw [List.drop_zero] at hf
    have hf := hf (by omega)
    rw [e1, e2]
    have hlt : (stop canB l v 0).2 < l.length := by omega
    generalize stop canB l v 0 = q at *
    obtain ⟨s, n⟩ := q
    simp only at *
    have e3 : plA v (l.take n) = (s, true) := by
      have : (l.take n).length = n := by rw [List.length_take]; omega
      unfold plA
      rw [ht, if_pos ⟨hL, by omega, by simp [this]⟩]
    rw [if_neg (by decide), if_pos trivial, if_pos (by omega), if_pos (by omega), Int.toNat_natCast, (pl_both v hv (l.take n) (l.length + 1000) (by rw [List.length_take]; omega)).1.2, e3]
    simp only [Option.bind_some]
    rw [if_pos (by omega), can_eq hs]
    simp [hf]
theorem sum_ok (t g f : Nat) (h : t + g + f ≤ 12) : wrap64 (wrap64 ((t : Int) + (g : Int)) + (f : Int)) = ((t + g + f : Nat) : Int) := by
  rw [w64 (x := (t : Int) + (g : Int)) (by omega) (by omega), w64 (by omega) (by omega)]
  omega
theorem three_ok (t g f : Nat) (h1 : 1 ≤ t + g + f) (h2 : t + g + f ≤ 12) : threeB 12 (t : Int) (g : Int) (f : Int) = true := by
  unfold threeB
  rw [sum_ok t g f h2]
  simp only [Bool.and_eq_true, decide_eq_true_eq]
  omega
def prs : List UInt8 → Int → Int
  | [], _ => 0
  | x :: l, t => if x = 84 then prs l (t + 1) else if x = 70 then t + prs l t else prs l t
theorem prs_l0 (a : ByteArray) (hs : a.size ≤ 12) : ∀ (d i k : Nat) (s t : Int), i + d = a.size → d < k → 0 ≤ s → s ≤ 1000 * i → 0 ≤ t → t ≤ i → impl_pairs.l0 k a s t (a.size : Int) (i : Int) = some (s + prs (a.data.toList.drop i) t) := by
  intro d
  induction d with
  | zero =>
    intro i k s t hi hk _ _ _ _
    obtain ⟨k, rfl⟩ : ∃ m, k = m + 1 := ⟨k - 1, by omega⟩
    simp only [impl_pairs.l0]
    rw [if_neg (by omega), List.drop_of_length_le (by rw [data_length]; omega)]
    simp [prs]
  | succ d ih =>
    intro i k s t hi hk s0 s1 t0 t1
    obtain ⟨k, rfl⟩ : ∃ m, k = m + 1 := ⟨k - 1, by omega⟩
    obtain ⟨x, hd, hb⟩ := bt_eq a i (by omega)
    simp only [impl_pairs.l0]
    rw [if_pos (by omega), if_pos (by omega), if_pos (by omega), hb, w64_succ (n := a.size) (by omega) (by omega), w64 (x := t + 1) (by omega) (by omega), w64 (x := s + t) (by omega) (by omega), hd, prs]
    rw [ih (i + 1) k s (t + 1) (by omega) (by omega) (by omega) (by omega) (by omega) (by omega), ih (i + 1) k (s + t) t (by omega) (by omega) (by omega) (by omega) (by omega) (by omega), ih (i + 1) k s t (by omega) (by omega) (by omega) (by omega) (by omega) (by omega)]
    simp only [is84, is70]
    by_cases h1 : x = 84
    · rw [if_pos h1, if_pos h1]
    · rw [if_neg h1, if_neg h1]
      by_cases h2 : x = 70
      · rw [if_pos h2, if_pos h2, Int.add_assoc]
      · rw [if_neg h2, if_neg h2]
theorem prs84 : ∀ (n : Nat) (l : List UInt8) (t : Int), prs (List.replicate n 84 ++ l) t = prs l (t + n)
  | 0, l, t => by simp
  | n + 1, l, t => by
    rw [List.replicate_succ, List.cons_append, prs, if_pos rfl, prs84 n l (t + 1), show t + 1 + (n : Int) = t + ((n + 1 : Nat) : Int) by omega]
theorem prs46 : ∀ (n : Nat) (l : List UInt8) (t : Int), prs (List.replicate n 46 ++ l) t = prs l t
  | 0, l, t => by simp
  | n + 1, l, t => by
    rw [List.replicate_succ, List.cons_append, prs, if_neg (by decide), if_neg (by decide), prs46 n l t]
theorem prs70 : ∀ (n : Nat) (t : Int), prs (List.replicate n 70) t = (n : Int) * t
  | 0, t => by simp [prs]
  | n + 1, t => by
    rw [List.replicate_succ, prs, if_neg (by decide), if_pos rfl, prs70 n t, show ((n + 1 : Nat) : Int) = (n : Int) + 1 from rfl, Int.add_mul]
    omega
theorem pairs_three (t g f : Nat) (h : t + g + f ≤ 12) (k : Nat) (hk : 40 ≤ k) : impl_pairs.f k (three 84 t g 70 f) = some (wrap64 ((t : Int) * (f : Int))) := by
  have hb : t * f ≤ 12 * 12 := Nat.mul_le_mul (by omega) (by omega)
  have e : (t : Int) * (f : Int) = ((t * f : Nat) : Int) := (Int.natCast_mul t f).symm
  unfold impl_pairs.f
  have hz := three_size 84 70 t g f
  have hp := prs_l0 (three 84 t g 70 f) (by omega) (three 84 t g 70 f).size 0 k 0 0 (by omega) (by omega) (by omega) (by omega) (by omega) (by omega)
  rw [show ((0 : Nat) : Int) = 0 from rfl] at hp
  rw [hp, List.drop_zero, three_list, prs84, prs46, prs70, w64 (x := (t : Int) * (f : Int)) (by rw [e]; omega) (by rw [e]; omega), Int.zero_add, Int.zero_add, Int.mul_comm]
theorem way_wrap (t g f : Nat) (h : t + g + f ≤ 12) : ((t * (g + f) + f * (t + g) : Nat) : Int) = wrap64 ((wrap64 ((t : Int) * (wrap64 ((g : Int) + (f : Int))))) + (wrap64 ((f : Int) * (wrap64 ((t : Int) + (g : Int)))))) := by
  have b1 : t * (g + f) ≤ 12 * 12 := Nat.mul_le_mul (by omega) (by omega)
  have b2 : f * (t + g) ≤ 12 * 12 := Nat.mul_le_mul (by omega) (by omega)
  have e1 : (t : Int) * ((g : Int) + (f : Int)) = ((t * (g + f) : Nat) : Int) := by rw [Int.natCast_mul, Int.natCast_add]
  have e2 : (f : Int) * ((t : Int) + (g : Int)) = ((f * (t + g) : Nat) : Int) := by rw [Int.natCast_mul, Int.natCast_add]
  rw [w64 (x := (g : Int) + (f : Int)) (by omega) (by omega), w64 (x := (t : Int) + (g : Int)) (by omega) (by omega), e1, e2]
  generalize t * (g + f) = p at *
  generalize f * (t + g) = q at *
  rw [w64 (x := (p : Int)) (by omega) (by omega), w64 (x := (q : Int)) (by omega) (by omega), w64 (by omega) (by omega)]
  exact Int.natCast_add p q
theorem r_j5 (x y z : Int) (v : ByteArray) (hv : v.size ≤ 140737488351232) (l : List S46) (k : Nat) (hk : 300 ≤ k) : laws_FnLinesRankedOfAll.j5 k x y z v l (firstA x y z).1 (firstA x y z).2 (plA v l).1 (plA v l).2 (mfA v l).1 (mfA v l).2 = some true := by
  obtain ⟨k, rfl⟩ : ∃ m, k = m + 1 := ⟨k - 1, by omega⟩
  simp only [laws_FnLinesRankedOfAll.j5]
  cases h : threeB 12 x y z with
  | false =>
    have e : firstA x y z = (⟨#[]⟩, false) := by unfold firstA; rw [h]; rfl
    rw [e, if_neg (by decide)]
    exact r_j6 v hv l k (by omega)
  | true =>
    obtain ⟨t, g, f, rfl, rfl, rfl, h1, h2⟩ := threeB_is (by omega) h
    have hln : isLine 12 (three 84 t g 70 f) = true := three_line rfl rfl t g f (by omega) (by omega)
    have hsz := (isLine_size hln).2.1
    have hsum : t + g + f ≤ 12 := by omega
    have hp : impl_PairsToPass.f k (three 84 t g 70 f) = some (wrap64 ((t : Int) * (f : Int)), true) := by
      unfold impl_PairsToPass.f impl_IsLine.f
      rw [show impl_isLineOf.f (three 84 t g 70 f) 12 = some (isLine 12 (three 84 t g 70 f)) from isLineOf_eq _ 12 (by omega), hln]
      simp only [Option.bind_some, if_true]
      rw [pairs_three t g f (by omega) k (by omega)]
      rfl
    have hw : impl_WayToGo.f k (three 84 t g 70 f) = some (((t * (g + f) + f * (t + g) : Nat) : Int), true) := by
      unfold impl_WayToGo.f impl_IsLine.f
      rw [show impl_isLineOf.f (three 84 t g 70 f) 12 = some (isLine 12 (three 84 t g 70 f)) from isLineOf_eq _ 12 (by omega), hln]
      simp only [Option.bind_some, if_true]
      rw [impl_way_eq _ hln k (by omega), way_first t g f (by omega)]
      rfl
    have e : firstA (t : Int) (g : Int) (f : Int) = (three 84 t g 70 f, true) := by
      unfold firstA
      rw [if_pos h, Int.toNat_natCast, Int.toNat_natCast, Int.toNat_natCast]
    rw [e, if_pos rfl]
    rw [hp, Option.bind_some, hw, Option.bind_some, if_pos rfl, if_pos rfl, if_pos rfl, if_pos (way_wrap t g f hsum)]
    exact r_j6 v hv l k (by omega)
theorem r_j4 (x y z r : Int) (v : ByteArray) (hv : v.size ≤ 140737488351232) (l : List S46) (k : Nat) (hk : 400 ≤ k) : laws_FnLinesRankedOfAll.j4 k x y z r v l (lorA x y z r).1 (lorA x y z r).2 (firstA x y z).1 (firstA x y z).2 (clA x y z).1 (plA v l).1 (plA v l).2 (mfA v l).1 (mfA v l).2 false = some true := by
  obtain ⟨k, rfl⟩ : ∃ m, k = m + 1 := ⟨k - 1, by omega⟩
  simp only [laws_FnLinesRankedOfAll.j4]
  rw [if_neg (by decide)]
  by_cases hr : threeB 12 x y z = true ∧ 0 ≤ r ∧ r < ((M x.toNat y.toNat z.toNat : Nat) : Int)
  · have e1 : lorA x y z r = (⟨(unrank (x.toNat + y.toNat + z.toNat) x.toNat y.toNat z.toNat r.toNat).toArray⟩, true) := if_pos hr
    have e2 : clA x y z = (((M x.toNat y.toNat z.toNat : Nat) : Int), true) := if_pos hr.1
    obtain ⟨h, h0, h1⟩ := hr
    obtain ⟨t, g, f, ex, ey, ez, h3, h4⟩ := threeB_is (by omega) h
    obtain ⟨n, rfl⟩ := Int.eq_ofNat_of_zero_le h0
    rw [e1, e2]
    simp only [ex, ey, ez, Int.toNat_natCast] at h1 ⊢
    obtain ⟨u1, u2, u3, u4, u5, u6⟩ := unrank_is (t + g + f) t g f n rfl (by omega) (by omega)
    have hln := line_of (l := unrank (t + g + f) t g f n) (by omega) (by omega) u2
    have hk : rklA (⟨(unrank (t + g + f) t g f n).toArray⟩ : ByteArray) = ((n : Int), true) := by
      unfold rklA
      rw [if_pos hln, show ((⟨(unrank (t + g + f) t g f n).toArray⟩ : ByteArray).data.toList) = unrank (t + g + f) t g f n from by simp, u6]
    rw [if_pos trivial, impl_rkl _ (by have := (isLine_size hln).2.1; omega), hk]
    simp only [Option.bind_some, if_true]
    rw [if_neg (by omega), ← ex, ← ey, ← ez]
    exact r_j5 _ _ _ v hv l k (by omega)
  · have e1 : lorA x y z r = (⟨#[]⟩, false) := if_neg hr
    rw [e1, if_neg (by decide)]
    exact r_j5 _ _ _ v hv l k (by omega)
theorem r_j3 (x y z r : Int) (v : ByteArray) (hv : v.size ≤ 140737488351232) (l : List S46) (k : Nat) (hk : l.length + 500 ≤ k) : laws_FnLinesRankedOfAll.j3 k x y z r v l = some true := by
  obtain ⟨k, rfl⟩ : ∃ m, k = m + 1 := ⟨k - 1, by omega⟩
  obtain ⟨f1, f2⟩ := first_both x y z k (by omega)
  obtain ⟨c1, c2⟩ := cl_both x y z k (by omega)
  obtain ⟨⟨p1, p2⟩, m1, m2⟩ := pl_both v hv l k (by omega)
  have hcf : (clA x y z).2 = (firstA x y z).2 := by unfold clA firstA; split <;> rfl
  have hpm : (plA v l).2 = true → (mfA v l).2 = false := by
    unfold plA mfA
    intro h
    split at h
    · rename_i hh; rw [if_neg (fun h2 => h2.2.2 hh.2.2)]
    · cases h
  simp only [laws_FnLinesRankedOfAll.j3]
  rw [impl_lor, spec_lor x y z r k (by omega), f1, f2, c1, c2, p1, p2, m1, m2]
  simp only [Option.bind_some, bne_self_eq_false, hcf, if_true, Bool.false_eq_true, if_false]
  split
  · rename_i h
    rw [hpm h]
    have := r_j4 x y z r v hv l k (by omega)
    rw [hpm h] at this
    exact this
  · exact r_j4 x y z r v hv l k (by omega)
theorem r_j2 (a : ByteArray) (hL : isLine 12 a = true) (x y z r : Int) (v : ByteArray) (hv : v.size ≤ 140737488351232) (l : List S46) (k : Nat) (hk : l.length + 600 ≤ k) :
    laws_FnLinesRankedOfAll.j2 k a x y z r v l ((rank a.data.toList : Nat) : Int) ((a.data.toList.count 84 : Nat) : Int) ((a.data.toList.count 46 : Nat) : Int) ((a.data.toList.count 70 : Nat) : Int) ((M (a.data.toList.count 84) (a.data.toList.count 46) (a.data.toList.count 70) : Nat) : Int) false = some true := by
  obtain ⟨k, rfl⟩ : ∃ m, k = m + 1 := ⟨k - 1, by omega⟩
  obtain ⟨h1, h12, hall⟩ := isLine_size hL
  have hln : a.data.toList.length = a.size := data_length a
  have hc := counts_len hall
  have hrl := rank_lt a.data.toList hall (by omega)
  have hms := M_small (t := a.data.toList.count 84) (g := a.data.toList.count 46) (f := a.data.toList.count 70) (by omega)
  have hu := unrank_rank a.data.toList hall (by omega)
  simp only [laws_FnLinesRankedOfAll.j2]
  rw [if_neg (by decide), show wrap64 (((rank a.data.toList : Nat) : Int) + 1) = ((rank a.data.toList + 1 : Nat) : Int) from w64_succ hrl (by omega)]
  by_cases hn : rank a.data.toList + 1 < M (a.data.toList.count 84) (a.data.toList.count 46) (a.data.toList.count 70)
  · rw [if_pos (by omega), impl_lor]
    have ht : threeB 12 ((a.data.toList.count 84 : Nat) : Int) ((a.data.toList.count 46 : Nat) : Int) ((a.data.toList.count 70 : Nat) : Int) = true := three_ok _ _ _ (by omega) (by omega)
    have e : lorA ((a.data.toList.count 84 : Nat) : Int) ((a.data.toList.count 46 : Nat) : Int) ((a.data.toList.count 70 : Nat) : Int) ((rank a.data.toList + 1 : Nat) : Int) = (⟨(unrank a.data.toList.length (a.data.toList.count 84) (a.data.toList.count 46) (a.data.toList.count 70) (rank a.data.toList + 1)).toArray⟩, true) := by
      unfold lorA
      rw [if_pos ⟨ht, by omega, by simp only [Int.toNat_natCast]; omega⟩]
      simp only [Int.toNat_natCast, hc]
    rw [e]
    simp only [Option.bind_some, if_true]
    have hless := unrank_less a.data.toList.length (a.data.toList.count 84) (a.data.toList.count 46) (a.data.toList.count 70) (rank a.data.toList) (rank a.data.toList + 1) hc.symm (by omega) (by omega) hn
    rw [hu] at hless
    rw [if_pos (by rw [ByteArray.toList_eq, ByteArray.toList_eq]; simpa using hless)]
    exact r_j3 x y z r v hv l k (by omega)
  · rw [if_neg (by omega)]
    exact r_j3 x y z r v hv l k (by omega)
theorem r_j1 (a : ByteArray) (hs : a.size ≤ 140737488351232) (x y z r : Int) (v : ByteArray) (hv : v.size ≤ 140737488351232) (l : List S46) (k : Nat) (hk : l.length + 700 ≤ k) :
    laws_FnLinesRankedOfAll.j1 k a x y z r v l (rklA a).1 (rklA a).2 (cntA a).1 (cntA a).2.1 (cntA a).2.2.1 (lastA a).1 false = some true := by
  obtain ⟨k, rfl⟩ : ∃ m, k = m + 1 := ⟨k - 1, by omega⟩
  simp only [laws_FnLinesRankedOfAll.j1]
  rw [if_neg (by decide)]
  unfold rklA cntA lastA
  cases hL : isLine 12 a with
  | false => exact r_j3 x y z r v hv l k (by omega)
  | true =>
    obtain ⟨h1, h12, hall⟩ := isLine_size hL
    have hln : a.data.toList.length = a.size := data_length a
    have hc := counts_len hall
    have hrl := rank_lt a.data.toList hall (by omega)
    have hj := r_j2 a hL x y z r v hv l k (by omega)
    have hu := unrank_rank a.data.toList hall (by omega)
    have ht : threeB 12 ((a.data.toList.count 84 : Nat) : Int) ((a.data.toList.count 46 : Nat) : Int) ((a.data.toList.count 70 : Nat) : Int) = true := three_ok _ _ _ (by omega) (by omega)
    have e1 : clA ((a.data.toList.count 84 : Nat) : Int) ((a.data.toList.count 46 : Nat) : Int) ((a.data.toList.count 70 : Nat) : Int) = (((M (a.data.toList.count 84) (a.data.toList.count 46) (a.data.toList.count 70) : Nat) : Int), true) := if_pos ht
    have e2 : lorA ((a.data.toList.count 84 : Nat) : Int) ((a.data.toList.count 46 : Nat) : Int) ((a.data.toList.count 70 : Nat) : Int) ((rank a.data.toList : Nat) : Int) = (a, true) := by
      unfold lorA
      rw [if_pos ⟨ht, by omega, by simp only [Int.toNat_natCast]; omega⟩]
      simp only [Int.toNat_natCast, hc, hu]
    have hl2 : isLine 12 (three 70 (a.data.toList.count 70) (a.data.toList.count 46) 84 (a.data.toList.count 84)) = true := three_line rfl rfl _ _ _ (by omega) (by omega)
    have hs2 := (isLine_size hl2).2.1
    have e3 : impl_WayToGo.f k (three 70 (a.data.toList.count 70) (a.data.toList.count 46) 84 (a.data.toList.count 84)) = some (0, true) := by
      unfold impl_WayToGo.f impl_IsLine.f
      rw [show impl_isLineOf.f (three 70 (a.data.toList.count 70) (a.data.toList.count 46) 84 (a.data.toList.count 84)) 12 = some (isLine 12 (three 70 (a.data.toList.count 70) (a.data.toList.count 46) 84 (a.data.toList.count 84))) from isLineOf_eq _ 12 (by omega), hl2]
      simp only [Option.bind_some, if_true]
      rw [impl_way_eq _ hl2 k (by omega), way_last _ _ _ (by omega)]
      rfl
    have e4 : cntA (three 70 (a.data.toList.count 70) (a.data.toList.count 46) 84 (a.data.toList.count 84)) = (((a.data.toList.count 84 : Nat) : Int), ((a.data.toList.count 46 : Nat) : Int), ((a.data.toList.count 70 : Nat) : Int), true) := by
      obtain ⟨q1, q2, q3⟩ := three_count (a.data.toList.count 84) (a.data.toList.count 46) (a.data.toList.count 70)
      unfold cntA
      rw [if_pos hl2, q1, q2, q3]
    simp only [if_true]
    rw [(cl_both _ _ _ k (by omega)).2, impl_lor, e1, e2, e3, (cnt_both _ (by omega) k (by omega)).2, e4]
    simp only [Option.bind_some, if_true]
    rw [if_neg (by omega), if_neg (by omega), if_pos (by rw [sum_ok _ _ _ (by omega)]; omega)]
    simp only [bne_self_eq_false]
    exact hj
theorem FnLinesRankedOfAll (a : ByteArray) (x y z r : Int) (v : ByteArray) (l : List S46) (hs : a.size ≤ 140737488351232) (_ : (Lit.int .i64 x).wf = true) (_ : (Lit.int .i64 y).wf = true) (_ : (Lit.int .i64 z).wf = true) (_ : (Lit.int .i64 r).wf = true) (hv : v.size ≤ 140737488351232) (hl : l.length * 16 ≤ 140737488351232) (_ : True) : ∃ k, laws_FnLinesRankedOfAll.f k a x y z r v l = some true := by
  refine ⟨l.length + 1001, ?_⟩
  have hj := r_j1 a hs x y z r v hv l (l.length + 1000) (by omega)
  have h0 : ∀ b, laws_FnLinesRankedOfAll.j0 (l.length + 1001) a x y z r v l b = some true := fun b => by
    simp only [laws_FnLinesRankedOfAll.j0]
    cases b with
    | true => rfl
    | false =>
      have hq : (cntA a).2.2.2 = (rklA a).2 := by unfold cntA rklA; split <;> rfl
      have hq2 : (lastA a).2 = (rklA a).2 := by unfold lastA rklA; split <;> rfl
      rw [if_neg (by decide), impl_rkl a hs, spec_rkl a hs _ (by omega), (cnt_both a hs _ (by omega)).1, (cnt_both a hs 100 (by omega)).2, (last_both a hs _ (by omega)).1, (last_both a hs 100 (by omega)).2]
      simp only [Option.bind_some, bne_self_eq_false, if_true, Bool.false_eq_true, if_false, hq, hq2]
      exact hj
  unfold laws_FnLinesRankedOfAll.f
  split
  · exact h0 _
  · split <;> exact h0 _
end Go.Proofs.YtgiphajcffambaaDoor.Pure
