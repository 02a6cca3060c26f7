/- FnExactWayOnBoard without Go: for every text that memory holds, the program's WayOnBoard is the reference's. -/
import Derived.Test.YtpfahibbmkcnoaaDoorLBboardof
import Derived.Test.YtpfahibbmkcnoaaDoorXB1
import Derived.Test.YtpfahibbmkcnoaaDoorXB3
import Derived.Test.YtpfahibbmkcnoaaDoorXB4
namespace Go.Proofs.YtpfahibbmkcnoaaDoor.Pure
set_option linter.unusedVariables false
set_option linter.unusedSimpArgs false
open Go Go.RowKit Go.Proofs.YtpfahibbmkcnoaaDoorW.PrintWords Go.Proofs.YtpfahibbmkcnoaaDoor.XB Go.Proofs.YtpfahibbmkcnoaaDoorB
/-- the way of a cell -/
def cellW (w h : Nat) (c : UInt8) (x y : Nat) : Nat := if c = 84 then (w - 1 - x) + (h - 1 - y) else if c = 70 then x + y else 0
def rowW (w h y : Nat) : List UInt8 → Nat → Nat
  | [], _ => 0
  | c :: l, x => cellW w h c x y + rowW w h y l (x + 1)
def allW (w h : Nat) : List ByteArray → Nat → Nat
  | [], _ => 0
  | r :: l, y => rowW w h y r.data.toList 0 + allW w h l (y + 1)
def flatW (w h : Nat) : List UInt8 → Nat → Nat
  | [], _ => 0
  | c :: l, i => cellW w h c (i % w) (i / w) + flatW w h l (i + 1)
theorem cellW_le {w h x y : Nat} (c : UInt8) (hx : x < w) (hy : y < h) (hw : w ≤ 5) (hh : h ≤ 5) : cellW w h c x y ≤ 8 := by
  unfold cellW
  split
  · omega
  · split <;> omega
theorem rowW_le {w h y : Nat} (hy : y < h) (hw : w ≤ 5) (hh : h ≤ 5) : ∀ (l : List UInt8) (x : Nat), x + l.length ≤ w → rowW w h y l x ≤ 8 * l.length
  | [], _, _ => Nat.zero_le _
  | c :: l, x, hl => by
    rw [List.length_cons] at hl ⊢
    have h1 := cellW_le c (show x < w by omega) hy hw hh
    have h2 := rowW_le hy hw hh l (x + 1) (by omega)
    rw [rowW]
    omega
theorem flatW_row {w h y : Nat} (l : List UInt8) : ∀ (r : List UInt8) (x : Nat), x + r.length ≤ w → flatW w h (r ++ l) (y * w + x) = rowW w h y r x + flatW w h l (y * w + x + r.length)
  | [], x, _ => by rw [List.nil_append, rowW, Nat.zero_add, List.length_nil, Nat.add_zero]
  | c :: r, x, hx => by
    rw [List.length_cons] at hx
    have h1 : (y * w + x) % w = x := by rw [Nat.mul_comm, Nat.mul_add_mod, Nat.mod_eq_of_lt (by omega)]
    have h2 : (y * w + x) / w = y := by rw [Nat.mul_comm, Nat.mul_add_div (by omega), Nat.div_eq_of_lt (by omega), Nat.add_zero]
    rw [List.cons_append, flatW, rowW, h1, h2, Nat.add_assoc (y * w) x 1, flatW_row l r (x + 1) (by omega), List.length_cons, show y * w + (x + 1) + r.length = y * w + x + (r.length + 1) by omega, Nat.add_assoc (cellW w h c x y)]
theorem flatW_all {w h : Nat} : ∀ (L : List (List UInt8)) (y : Nat), (∀ r ∈ L, r.length = w) → flatW w h L.flatten (y * w) = allW w h (L.map mk) y
  | [], _, _ => rfl
  | r :: L, y, hl => by
    have hr := hl r List.mem_cons_self
    have h1 := flatW_row (w := w) (h := h) (y := y) L.flatten r 0 (by omega)
    rw [Nat.add_zero] at h1
    rw [List.flatten_cons, h1, hr, List.map_cons, allW, ← flatW_all L (y + 1) (fun x hx => hl x (List.mem_cons_of_mem _ hx)), Nat.succ_mul, mk_list]
theorem way_impl (cs : ByteArray) (w h : Nat) (hw1 : 1 ≤ w) (hw : w ≤ 5) (hh : h ≤ 5) (hsz : cs.size = h * w) (hhi : impl_board_high.f cs (w : Int) = some (h : Int)) : ∀ (d i k acc : Nat), i + d = cs.size → d < k → acc ≤ 8 * i →
    impl_WayOnBoard.l0 k (acc : Int) (cs.size : Int) (i : Int) cs (w : Int) = some (((acc + flatW w h (cs.data.toList.drop i) i : Nat) : Int), true) := by
  have h25 : cs.size ≤ 25 := by rw [hsz]; exact Nat.mul_le_mul hh hw
  intro d
  induction d with
  | zero =>
    intro i k acc hi hk ha
    obtain ⟨k, rfl⟩ : ∃ m, k = m + 1 := ⟨k - 1, by omega⟩
    simp only [impl_WayOnBoard.l0]
    rw [if_neg (by omega), List.drop_of_length_le (by rw [← Lib.size_eq]; omega)]
    rfl
  | succ d ih =>
    intro i k acc hi hk ha
    obtain ⟨k, rfl⟩ : ∃ m, k = m + 1 := ⟨k - 1, by omega⟩
    obtain ⟨c, hd, hb⟩ := bt_eq cs i (by omega)
    have hm : i % w < w := Nat.mod_lt _ (by omega)
    have hq : i / w < h := Nat.div_lt_of_lt_mul (by rw [Nat.mul_comm]; omega)
    have e1 : Int.tmod (i : Int) (w : Int) = ((i % w : Nat) : Int) := rfl
    have e2 : Int.tdiv (i : Int) (w : Int) = ((i / w : Nat) : Int) := rfl
    simp only [impl_WayOnBoard.l0]
    rw [if_pos (by omega), if_neg (by omega), if_pos (by omega), if_pos (by omega), hb, hhi, e1, e2, hd, w64_succ (n := cs.size) (by omega) (by omega)]
    simp only [Option.bind_some, is84, is70]
    rw [flatW]
    generalize i % w = x at *
    generalize i / w = y at *
    unfold cellW
    have hc : ∀ v : Nat, v ≤ 8 → impl_WayOnBoard.l0 k ((acc + v : Nat) : Int) (cs.size : Int) ((i + 1 : Nat) : Int) cs (w : Int) = some (((acc + (v + flatW w h (cs.data.toList.drop (i + 1)) (i + 1)) : Nat) : Int), true) := fun v hv => by
      rw [ih (i + 1) k (acc + v) (by omega) (by omega) (by omega), Nat.add_assoc]
    by_cases h1 : c = 84
    · rw [if_pos h1, if_pos h1, ← hc _ (by omega)]
      congr 1
      rw [w64 (x := (w : Int) - 1) (by omega) (by omega), w64 (x := (w : Int) - 1 - (x : Int)) (by omega) (by omega), w64 (x := (w : Int) - 1 - (x : Int) + (h : Int)) (by omega) (by omega), w64 (x := (w : Int) - 1 - (x : Int) + (h : Int) - 1) (by omega) (by omega), w64 (x := (y : Int)) (by omega) (by omega), w64 (x := (w : Int) - 1 - (x : Int) + (h : Int) - 1 - (y : Int)) (by omega) (by omega), w64 (by omega) (by omega)]
      omega
    · rw [if_neg h1, if_neg h1]
      by_cases h2 : c = 70
      · rw [if_pos h2, if_pos h2, ← hc _ (by omega)]
        congr 1
        rw [w64 (x := (y : Int)) (by omega) (by omega), w64 (x := (x : Int) + (y : Int)) (by omega) (by omega), w64 (by omega) (by omega)]
        omega
      · rw [if_neg h2, if_neg h2]
        exact hc 0 (by omega)
theorem way_row (rows : List ByteArray) (hh : rows.length ≤ 5) (w : Nat) (hw : w ≤ 5) (y : Nat) (hy : y < rows.length) (r : ByteArray) (hr : r.size = w) (hsg : r.data.toList.all sgn = true) (res : Int × Bool)
    (next : ∀ (k acc : Nat), 10 * (rows.length - (y + 1)) + 10 ≤ k → acc ≤ 40 * (y + 1) → spec_WayOnBoard.l0 k rows (acc : Int) rows (rows.length : Int) ((y + 1 : Nat) : Int) = some (((acc + allW w rows.length (rows.drop (y + 1)) (y + 1) : Nat) : Int), true)) :
    ∀ (d x k acc : Nat), x + d = w → 10 * (rows.length - (y + 1)) + 11 + d ≤ k → acc ≤ 40 * y + 8 * x →
      spec_WayOnBoard.l1 k rows (acc : Int) (y : Int) r rows (rows.length : Int) (y : Int) (x : Int) r = some (((acc + rowW w rows.length y (r.data.toList.drop x) x + allW w rows.length (rows.drop (y + 1)) (y + 1) : Nat) : Int), true) := by
  intro d
  induction d with
  | zero =>
    intro x k acc hx hk ha
    obtain ⟨k, rfl⟩ : ∃ m, k = m + 1 := ⟨k - 1, by omega⟩
    simp only [spec_WayOnBoard.l1]
    rw [if_pos (by omega), if_neg (by omega), List.drop_of_length_le (by rw [← Lib.size_eq]; omega), rowW, w64_succ (n := rows.length) (by omega) (by omega)]
    exact next k acc (by omega) (by omega)
  | succ d ih =>
    intro x k acc hx hk ha
    obtain ⟨k, rfl⟩ : ∃ m, k = m + 1 := ⟨k - 1, by omega⟩
    obtain ⟨c, hd, hb⟩ := bt_eq r x (by omega)
    have hsc : sgn c = true := List.all_eq_true.1 hsg c (List.mem_of_mem_drop (by rw [hd]; exact List.mem_cons_self))
    have h128 : (c.toNat : Int) < 128 := by
      unfold sgn at hsc
      simp only [Bool.or_eq_true, beq_iff_eq] at hsc
      rcases hsc with (rfl | rfl) | rfl <;> decide
    simp only [spec_WayOnBoard.l1]
    rw [if_pos (by omega), if_pos (by omega), hb, if_pos h128, if_pos (by omega), hd, rowW]
    simp only [is84, is70]
    unfold cellW
    have hc : ∀ v : Nat, v ≤ 8 → spec_WayOnBoard.l1 k rows ((acc + v : Nat) : Int) (y : Int) r rows (rows.length : Int) (y : Int) ((x + 1 : Nat) : Int) r = some (((acc + (v + rowW w rows.length y (r.data.toList.drop (x + 1)) (x + 1)) + allW w rows.length (rows.drop (y + 1)) (y + 1) : Nat) : Int), true) := fun v hv => by
      rw [ih (x + 1) k (acc + v) (by omega) (by omega) (by omega), Nat.add_assoc acc v]
    have e3 : (x : Int) + 1 = ((x + 1 : Nat) : Int) := rfl
    rw [e3, hr]
    by_cases h1 : c = 84
    · rw [if_pos h1, if_pos h1, ← hc _ (by omega)]
      congr 1
      rw [w64 (x := (w : Int) - 1) (by omega) (by omega), w64 (x := (w : Int) - 1 - (x : Int)) (by omega) (by omega), w64 (x := (w : Int) - 1 - (x : Int) + (rows.length : Int)) (by omega) (by omega), w64 (x := (w : Int) - 1 - (x : Int) + (rows.length : Int) - 1) (by omega) (by omega), w64 (x := (w : Int) - 1 - (x : Int) + (rows.length : Int) - 1 - (y : Int)) (by omega) (by omega), w64 (by omega) (by omega)]
      omega
    · rw [if_neg h1, if_neg h1]
      by_cases h2 : c = 70
      · rw [if_pos h2, if_pos h2, ← hc _ (by omega)]
        congr 1
        rw [w64 (x := (x : Int) + (y : Int)) (by omega) (by omega), w64 (by omega) (by omega)]
        omega
      · rw [if_neg h2, if_neg h2]
        exact hc 0 (by omega)
theorem way_spec (rows : List ByteArray) (hh : rows.length ≤ 5) (w : Nat) (hw : w ≤ 5) (hr : ∀ r ∈ rows, r.size = w ∧ r.data.toList.all sgn = true) : ∀ (d y k acc : Nat), y + d = rows.length → 10 * d + 10 ≤ k → acc ≤ 40 * y →
    spec_WayOnBoard.l0 k rows (acc : Int) rows (rows.length : Int) (y : Int) = some (((acc + allW w rows.length (rows.drop y) y : Nat) : Int), true) := by
  intro d
  induction d with
  | zero =>
    intro y k acc hy hk ha
    obtain ⟨k, rfl⟩ : ∃ m, k = m + 1 := ⟨k - 1, by omega⟩
    simp only [spec_WayOnBoard.l0]
    rw [if_neg (by omega), List.drop_of_length_le (by omega)]
    rfl
  | succ d ih =>
    intro y k acc hy hk ha
    obtain ⟨k, rfl⟩ : ∃ m, k = m + 1 := ⟨k - 1, by omega⟩
    have hd := rd_drop (rows := rows) (i := y) (by omega)
    have hm := hr _ (List.mem_of_mem_drop (by rw [hd]; exact List.mem_cons_self) : rdOf ByteArray.empty rows (y : Int) ∈ rows)
    simp only [spec_WayOnBoard.l0]
    rw [if_pos (by omega), if_pos (by omega), if_pos (by omega), hd, allW]
    generalize rdOf ByteArray.empty rows (y : Int) = r at *
    have := way_row rows hh w hw y (by omega) r hm.1 hm.2 (0, true) (fun k acc hk ha => ih (y + 1) k acc (by omega) (by omega) ha) w 0 k acc (by omega) (by omega) (by omega)
    rw [List.drop_zero] at this
    rw [← Nat.add_assoc]
    exact this
theorem wayOn_both (a : ByteArray) (k : Nat) (hk : 300 ≤ k) : ∃ q, spec_WayOnBoard.f k a = some q ∧ impl_WayOnBoard.f k a = some q := by
  unfold spec_WayOnBoard.f impl_WayOnBoard.f
  rw [boRows_eq a k (by omega), impl_IsBoard_eq a]
  simp only [Option.bind_some]
  cases ho : okRows (rowsOf a) with
  | false => exact ⟨_, rfl, rfl⟩
  | true =>
    obtain ⟨w, h1, h2, h3, h4, h5, h6, h7, h8, h9⟩ := board_is ho
    simp only [if_true]
    rw [boardOf_eq a (by omega), h4]
    simp only [Option.bind_some]
    have hz : ∀ r ∈ rowsOf a, r.size = w ∧ r.data.toList.all sgn = true := fun r hr => by
      refine ⟨?_, h7 r hr⟩
      unfold rowsOf at hr
      obtain ⟨l, hl, rfl⟩ := List.mem_map.1 hr
      rw [mk_size]
      exact h6 l hl
    have e1 : spec_WayOnBoard.l0 k (rowsOf a) 0 (rowsOf a) ((rowsOf a).length : Int) 0 = _ := way_spec (rowsOf a) h5 w h2 hz (rowsOf a).length 0 k 0 (by omega) (by omega) (Nat.zero_le _)
    have hcs : (mk (drop47 a.data.toList)).size = (rowsOf a).length * w := by rw [mk_size, h8]
    have h25 : (rowsOf a).length * w ≤ 5 * 5 := Nat.mul_le_mul h5 h2
    have e2 : impl_WayOnBoard.l0 k 0 ((mk (drop47 a.data.toList)).size : Int) 0 (mk (drop47 a.data.toList)) (w : Int) = _ := way_impl (mk (drop47 a.data.toList)) w (rowsOf a).length h1 h2 h5 hcs (board_high_eq h1 h2 h5 h8) (mk (drop47 a.data.toList)).size 0 k 0 (by omega) (by omega) (Nat.zero_le _)
    rw [List.drop_zero] at e1 e2
    have e3 := flatW_all (w := w) (h := (rowsOf a).length) (spl a.data.toList) 0 h6
    rw [Nat.zero_mul, spl_flat] at e3
    rw [mk_list, e3] at e2
    exact ⟨_, e1, e2⟩
theorem FnExactWayOnBoard (a : ByteArray) (hs : a.size ≤ 140737488351232) : ∃ k, laws_FnExactWayOnBoard.f k a = some true := by
  refine ⟨300, ?_⟩
  unfold laws_FnExactWayOnBoard.f
  split
  · rfl
  obtain ⟨q, h1, h2⟩ := wayOn_both a 300 (by omega)
  rw [h1]
  simp only [Option.bind_some]
  rw [h2]
  simp only [Option.bind_some, if_true, bne_self_eq_false]
  rfl
end Go.Proofs.YtpfahibbmkcnoaaDoor.Pure
