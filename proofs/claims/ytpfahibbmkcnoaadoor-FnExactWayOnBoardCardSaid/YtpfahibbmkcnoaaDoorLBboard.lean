/- Boards: rows told by slashes, for the reference and for the program: for all texts that memory holds. -/
import Derived.Test.YtpfahibbmkcnoaaDoorXB1
import Derived.Test.YtpfahibbmkcnoaaDoorXB2
import Derived.Test.YtpfahibbmkcnoaaDoorLBline
namespace Go.Proofs.YtpfahibbmkcnoaaDoor.XB
set_option linter.unusedVariables false
set_option linter.unusedSimpArgs false
open Go Go.RowKit Go.Proofs.YtpfahibbmkcnoaaDoorW.PrintWords Go.Proofs.YtpfahibbmkcnoaaDoorB

def mk (l : List UInt8) : ByteArray := ⟨l.toArray⟩
theorem mk_size (l : List UInt8) : (mk l).size = l.length := List.size_toArray
theorem mk_list (l : List UInt8) : (mk l).data.toList = l := rfl
theorem mk_of (a : ByteArray) : mk a.data.toList = a := Lib.mk_data a
/-- the pieces of a text between slashes -/
def spl : List UInt8 → List (List UInt8)
  | [] => [[]]
  | c :: l => if c = 47 then [] :: spl l else (c :: (spl l).headD []) :: (spl l).tail
theorem spl_form (l : List UInt8) : spl l = (spl l).headD [] :: (spl l).tail := by
  cases l with
  | nil => rfl
  | cons c l =>
    rw [spl]
    split <;> rfl
theorem spl_none : ∀ (p : List UInt8), (∀ x ∈ p, x ≠ 47) → spl p = [p]
  | [], _ => rfl
  | c :: p, h => by rw [spl, if_neg (h c List.mem_cons_self), spl_none p (fun x hx => h x (List.mem_cons_of_mem _ hx))]; rfl
theorem spl_append (l : List UInt8) : ∀ (p : List UInt8), (∀ x ∈ p, x ≠ 47) → spl (p ++ 47 :: l) = p :: spl l
  | [], _ => by rw [List.nil_append, spl, if_pos rfl]
  | c :: p, h => by rw [List.cons_append, spl, if_neg (h c List.mem_cons_self), spl_append l p (fun x hx => h x (List.mem_cons_of_mem _ hx))]; rfl
theorem spl_flat : ∀ (l : List UInt8), (spl l).flatten = drop47 l
  | [] => rfl
  | c :: l => by
    have ih := spl_flat l
    rw [spl_form l, List.flatten_cons] at ih
    unfold drop47 at ih ⊢
    rw [spl]
    by_cases h : c = 47
    · rw [if_pos h, List.flatten_cons, spl_form l, List.flatten_cons, ih, List.nil_append, List.filter_cons, if_neg (by simp [h])]
    · rw [if_neg h, List.flatten_cons, List.cons_append, ih, List.filter_cons, if_pos (by simp [h])]
theorem spl_index : ∀ (l : List UInt8), Lib.indexByte (l ++ [47]) 47 = (((spl l).headD []).length : Int)
  | [] => rfl
  | c :: l => by
    have ih := spl_index l
    rw [List.cons_append, Lib.indexByte, spl]
    by_cases h : c = 47
    · rw [if_pos (by simp [h]), if_pos h]
      first | done | rfl
    · rw [if_neg (by simp [h]), if_neg h, ih, if_neg (by simp)]
      first | done | rfl | simp
theorem spl_length : ∀ (l : List UInt8), (spl l).flatten.length + (spl l).length = l.length + 1
  | [] => rfl
  | c :: l => by
    have ih := spl_length l
    rw [spl_form l, List.flatten_cons, List.length_append, List.length_cons] at ih
    rw [spl]
    by_cases h : c = 47
    · rw [if_pos h, List.flatten_cons, List.nil_append, List.length_cons, spl_form l, List.flatten_cons, List.length_append, List.length_cons, List.length_cons]; omega
    · rw [if_neg h, List.flatten_cons, List.length_append, List.length_cons, List.length_cons, List.length_cons]; omega
/-- the rows of a text -/
def rowsOf (a : ByteArray) : List ByteArray := (spl a.data.toList).map mk
theorem rowsOf_ne (a : ByteArray) : 1 ≤ (rowsOf a).length := by
  unfold rowsOf
  rw [spl_form, List.map_cons, List.length_cons]
  omega
theorem extract_mk (a : ByteArray) (i j : Nat) : a.extract i j = mk ((a.data.toList.drop i).take (j - i)) := by
  rw [← mk_of (a.extract i j), Lib.extract_data]
theorem splitB_eq : ∀ (k : Nat) (s : ByteArray), s.data.toList.count 47 = k → Lib.splitB ⟨#[47]⟩ 0 k s = rowsOf s
  | 0, s, h => by
    have := List.count_eq_zero.1 h
    unfold rowsOf
    rw [spl_none _ (fun x hx e => this (e ▸ hx)), Lib.splitB_zero, List.map_cons, List.map_nil, mk_of]
  | k + 1, s, h => by
    obtain ⟨j, hj, hjl, htk, hdr⟩ := index47 s.data.toList (by omega)
    have hi : Lib.indexB s ⟨#[47]⟩ = (j : Int) := by
      show Lib.index s.data.toList [47] = _
      rw [Lib.index_one, hj]
    have hn : ∀ x ∈ s.data.toList.take j, x ≠ 47 := fun x hx => by
      rw [← htk] at hx
      have := (List.mem_filter.1 hx).2
      simpa using this
    have hl : s.data.toList.length = s.size := (Lib.size_eq s).symm
    have hsp : s.data.toList = s.data.toList.take j ++ 47 :: s.data.toList.drop (j + 1) := by
      conv => lhs; rw [← List.take_append_drop j s.data.toList, hdr]
    have hc : (s.extract (j + 1) s.size).data.toList.count 47 = k := by
      rw [Lib.extract_to_end]
      rw [hsp, List.count_append, List.count_cons_self, List.count_eq_zero.2 (fun hm => hn _ hm rfl)] at h
      omega
    rw [Lib.splitB_hit _ _ _ _ j hi]
    have h1 : (⟨#[47]⟩ : ByteArray).size = 1 := rfl
    rw [h1, splitB_eq k _ hc]
    unfold rowsOf
    rw [Lib.extract_to_end]
    conv => rhs; rw [hsp, spl_append _ _ hn]
    rw [List.map_cons, extract_mk, List.drop_zero]
    congr 2
theorem split_eq (a : ByteArray) (hs : a.size < 4294967281) : strings_Split.f a ⟨#[47]⟩ = some (rowsOf a) := by
  show (if a.size < 4294967281 then some (Lib.splitB ⟨#[47]⟩ 0 (Lib.countB a ⟨#[47]⟩) a) else none) = _
  rw [if_pos hs]
  congr 1
  refine splitB_eq _ a ?_
  show _ = Lib.count a.data.toList [47]
  rw [Lib.count_one]
theorem l1Split_l0 (a : ByteArray) (hs : a.size ≤ 1000) : ∀ (d i f k : Nat) (acc : List ByteArray), i + d = a.size → f ≤ i → (∀ x ∈ (a.data.toList.drop f).take (i - f), x ≠ 47) → acc.length ≤ i → d < k →
    spec_l1Split.l0 k a 47 acc (f : Int) (i : Int) = some (acc ++ (spl (a.data.toList.drop f)).map mk) := by
  intro d
  induction d with
  | zero =>
    intro i f k acc hi hf hn hacc hk
    obtain ⟨k, rfl⟩ : ∃ m, k = m + 1 := ⟨k - 1, by omega⟩
    simp only [spec_l1Split.l0]
    have hl : a.data.toList.length = a.size := (Lib.size_eq a).symm
    rw [List.take_of_length_le (by rw [List.length_drop]; omega)] at hn
    rw [if_neg (by omega), if_pos (by omega), if_pos (by omega), if_pos (by omega), spl_none _ hn, Int.toNat_natCast, extract_mk, List.take_of_length_le (by rw [List.length_drop]; omega)]
    rfl
  | succ d ih =>
    intro i f k acc hi hf hn hacc hk
    obtain ⟨k, rfl⟩ : ∃ m, k = m + 1 := ⟨k - 1, by omega⟩
    obtain ⟨c, hd, hb⟩ := bt_eq a i (by omega)
    simp only [spec_l1Split.l0]
    have hfd : a.data.toList.drop f = (a.data.toList.drop f).take (i - f) ++ c :: a.data.toList.drop (i + 1) := by
      conv => lhs; rw [← List.take_append_drop (i - f) (a.data.toList.drop f), List.drop_drop, show f + (i - f) = i by omega, hd]
    rw [if_pos (by omega), if_pos (by omega), hb, w64_succ (n := a.size) (by omega) (by omega)]
    by_cases h1 : c = 47
    · rw [if_pos ((is47 c).2 h1), if_pos (by omega), if_pos (by omega), if_pos (by omega), if_pos (by omega), ih (i + 1) (i + 1) k _ (by omega) (Nat.le_refl _) (by rw [Nat.sub_self, List.take_zero]; exact fun x hx => by cases hx) (by rw [List.length_append, List.length_singleton]; omega) (by omega)]
      subst h1
      conv => rhs; rw [hfd, spl_append _ _ hn]
      rw [Int.toNat_natCast, Int.toNat_natCast, extract_mk, List.map_cons, List.append_assoc]
      rfl
    · rw [if_neg (fun h => h1 ((is47 c).1 h))]
      refine ih (i + 1) f k acc (by omega) (by omega) ?_ (by omega) (by omega)
      rw [hfd, show i + 1 - f = (i - f) + 1 by omega]
      intro x hx
      rw [List.take_append, List.mem_append] at hx
      rcases hx with hx | hx
      · exact hn x (by
          have := List.mem_of_mem_take hx
          exact this)
      · have hlen : ((a.data.toList.drop f).take (i - f)).length = i - f := by
          rw [List.length_take, List.length_drop, ← Lib.size_eq]; omega
        rw [hlen, show i - f + 1 - (i - f) = 1 by omega, List.take_succ_cons, List.take_zero, List.mem_singleton] at hx
        rw [hx]; exact h1
theorem l1Split_eq (a : ByteArray) (hs : a.size ≤ 1000) (k : Nat) (hk : a.size < k) : spec_l1Split.f k a 47 = some (rowsOf a) := by
  have h := l1Split_l0 a hs a.size 0 0 k [] (by omega) (Nat.le_refl _) (by simp) (Nat.zero_le _) hk
  rw [List.drop_zero, List.nil_append] at h
  exact h
/-- whether rows make a board -/
def rowOk (n : Nat) (r : ByteArray) : Bool := isLine 5 r && r.size == n
def okRows (rows : List ByteArray) : Bool := decide (rows.length ≤ 5) && rows.all (rowOk (rows.headD ⟨#[]⟩).size)
theorem isLine_12 (r : ByteArray) : (isLine 12 r && decide (r.size ≤ 5)) = isLine 5 r := by
  unfold isLine
  by_cases h : r.size ≤ 5
  · rw [decide_eq_true h, decide_eq_true (show r.size ≤ 12 by omega), Bool.and_true]
  · rw [decide_eq_false h, Bool.and_false, Bool.false_and, Bool.and_false]
theorem rowBad_eq (n : Nat) (r : ByteArray) (hs : r.size ≤ 140737488351232) : rowBad n r = some (!(rowOk n r)) := by
  unfold rowBad rowOk
  rw [show impl_isLineOf.f r 5 = some (isLine 5 r) from isLineOf_eq r 5 hs]
  simp only [Option.bind_some]
  cases isLine 5 r with
  | false => rfl
  | true =>
    rw [if_pos rfl, Bool.true_and]
    congr 1
    by_cases h : r.size = n
    · subst h; simp
    · rw [show (r.size == n) = false from by simp [h], show ((r.size : Int) != (n : Int)) = true from by simp; omega]
      rfl
theorem rowIdx_eq (n : Nat) : ∀ (rows : List ByteArray) (i : Nat), (∀ r ∈ rows, r.size ≤ 140737488351232) → ∃ q, rowIdx n rows i = some q ∧ (!(decide (0 ≤ q))) = rows.all (rowOk n)
  | [], i, _ => ⟨-1, rfl, rfl⟩
  | r :: rows, i, h => by
    rw [rowIdx, rowBad_eq n r (h r List.mem_cons_self), List.all_cons]
    simp only [Option.bind_some]
    cases hr : rowOk n r with
    | false => exact ⟨(i : Int), rfl, by rw [decide_eq_true (by omega)]; rfl⟩
    | true =>
      obtain ⟨q, h1, h2⟩ := rowIdx_eq n rows (i + 1) (fun r hr => h r (List.mem_cons_of_mem _ hr))
      exact ⟨q, h1, h2⟩
theorem rowsAre_eq (rows : List ByteArray) (h : ∀ r ∈ rows, r.size ≤ 140737488351232) : rowsAre rows = some (okRows rows) := by
  unfold rowsAre okRows
  by_cases h5 : rows.length ≤ 5
  · obtain ⟨q, h1, h2⟩ := rowIdx_eq (rows.headD ⟨#[]⟩).size rows 0 h
    rw [if_pos h5, h1, decide_eq_true h5, Bool.true_and, ← h2]
    rfl
  · rw [if_neg h5, decide_eq_false h5]
    rfl
theorem in_flat {l : List UInt8} : ∀ (L : List (List UInt8)), l ∈ L → l.length ≤ L.flatten.length
  | x :: L, h => by
    rw [List.flatten_cons, List.length_append]
    rcases List.mem_cons.1 h with rfl | h
    · omega
    · have := in_flat L h
      omega
theorem row_le (a : ByteArray) : ∀ r ∈ rowsOf a, r.size ≤ a.size := by
  intro r hr
  unfold rowsOf at hr
  obtain ⟨l, hl, rfl⟩ := List.mem_map.1 hr
  have h1 := spl_length a.data.toList
  have h2 : l.length ≤ (spl a.data.toList).flatten.length := by
    exact in_flat _ hl
  have h3 : 1 ≤ (spl a.data.toList).length := by rw [spl_form]; simp
  rw [← Lib.size_eq] at h1
  rw [mk_size]
  omega
theorem flat_le : ∀ (L : List (List UInt8)) (n : Nat), (∀ l ∈ L, l.length = n) → L.flatten.length = L.length * n
  | [], n, _ => by simp
  | l :: L, n, h => by
    rw [List.flatten_cons, List.length_append, flat_le L n (fun x hx => h x (List.mem_cons_of_mem _ hx)), h l List.mem_cons_self, List.length_cons, Nat.succ_mul]
    omega
/-- what is known of a board -/
theorem board_is {a : ByteArray} (h : okRows (rowsOf a) = true) : ∃ w : Nat, 1 ≤ w ∧ w ≤ 5 ∧ ((rowsOf a).headD ⟨#[]⟩).size = w ∧ ((spl a.data.toList).headD []).length = w ∧ (rowsOf a).length ≤ 5 ∧ (∀ l ∈ spl a.data.toList, l.length = w) ∧ (∀ r ∈ rowsOf a, r.data.toList.all sgn = true) ∧ (drop47 a.data.toList).length = (rowsOf a).length * w ∧ a.size ≤ 29 := by
  unfold okRows at h
  rw [Bool.and_eq_true, decide_eq_true_eq] at h
  obtain ⟨h5, h⟩ := h
  have hr : ∀ r ∈ rowsOf a, isLine 5 r = true ∧ r.size = ((rowsOf a).headD ⟨#[]⟩).size := fun r hr => by
    have := List.all_eq_true.1 h r hr
    unfold rowOk at this
    rw [Bool.and_eq_true] at this
    exact ⟨this.1, by simpa using this.2⟩
  have hw : ((rowsOf a).headD ⟨#[]⟩).size = ((spl a.data.toList).headD []).length := by
    unfold rowsOf
    rw [spl_form]
    exact mk_size _
  have hm : (rowsOf a).headD ⟨#[]⟩ ∈ rowsOf a := by
    unfold rowsOf
    rw [spl_form]
    exact List.mem_cons_self
  have h0 := isLine_size (hr _ hm).1
  have hl : ∀ l ∈ spl a.data.toList, l.length = ((rowsOf a).headD ⟨#[]⟩).size := fun l hl => by
    rw [← (hr (mk l) (List.mem_map.2 ⟨l, hl, rfl⟩)).2, mk_size]
  have hf := flat_le _ _ hl
  have hln := spl_length a.data.toList
  have hlr : (rowsOf a).length = (spl a.data.toList).length := List.length_map _
  rw [← hlr] at hf hln
  have hmul : (rowsOf a).length * ((rowsOf a).headD ⟨#[]⟩).size ≤ 5 * 5 := Nat.mul_le_mul h5 h0.2.1
  refine ⟨_, h0.1, h0.2.1, rfl, hw.symm, h5, hl, fun r hrm => (isLine_size (hr r hrm).1).2.2, by rw [← spl_flat, hf], ?_⟩
  rw [← Lib.size_eq] at hln
  omega
theorem impl_IsBoard_eq (a : ByteArray) : impl_IsBoard.f a = some (okRows (rowsOf a)) := by
  unfold impl_IsBoard.f
  by_cases h : 30 < a.size
  · rw [if_pos h]
    cases ho : okRows (rowsOf a) with
    | false => rfl
    | true =>
      obtain ⟨w, h1, h2, h3, h4, h5, h6, h7, h8, h9⟩ := board_is ho
      omega
  · rw [if_neg h, splitB_eq _ a (by show _ = Lib.count a.data.toList [47]; rw [Lib.count_one]), rowsAre_eq _ (fun r hr => by have := row_le a r hr; omega)]
theorem rd_drop {rows : List ByteArray} {i : Nat} (h : i < rows.length) : rows.drop i = rdOf ByteArray.empty rows (i : Int) :: rows.drop (i + 1) := by
  rw [List.drop_eq_getElem_cons h]
  unfold rdOf
  rw [Int.toNat_natCast, List.getD_eq_getElem?_getD, List.getElem?_eq_getElem h]
  rfl
theorem boRows_l0 (rows : List ByteArray) (hn : 1 ≤ rows.length) (hb : rows.length ≤ 1000) (hs : ∀ r ∈ rows, r.size ≤ 140737488351232) : ∀ (d i k : Nat), i + d = rows.length → d + 30 < k →
    spec_boRows.l0 k rows rows (rows.length : Int) (i : Int) = some (if (rows.drop i).all (rowOk (rows.headD ⟨#[]⟩).size) = true then (rows, true) else ([], false)) := by
  intro d
  induction d with
  | zero =>
    intro i k hi hk
    obtain ⟨k, rfl⟩ : ∃ m, k = m + 1 := ⟨k - 1, by omega⟩
    simp only [spec_boRows.l0]
    rw [if_neg (by omega), List.drop_of_length_le (by omega), List.all_nil, if_pos rfl]
  | succ d ih =>
    intro i k hi hk
    obtain ⟨k, rfl⟩ : ∃ m, k = m + 1 := ⟨k - 1, by omega⟩
    have hd := rd_drop (rows := rows) (i := i) (by omega)
    have hm : rdOf ByteArray.empty rows (i : Int) ∈ rows := List.mem_of_mem_drop (by rw [hd]; exact List.mem_cons_self)
    have h0 : rdOf ByteArray.empty rows 0 = rows.headD ⟨#[]⟩ := by
      cases rows with
      | nil => simp at hn
      | cons r l => rfl
    simp only [spec_boRows.l0]
    rw [if_pos (by omega), if_pos (by omega), if_pos (by omega), liGood_eq _ (hs _ hm) k (by omega), h0, w64_succ (n := rows.length) (by omega) (by omega), ih (i + 1) k (by omega) (by omega), hd, List.all_cons]
    simp only [Option.bind_some]
    generalize rdOf ByteArray.empty rows (i : Int) = r
    unfold rowOk
    rw [← isLine_12]
    cases isLine 12 r with
    | false => rfl
    | true =>
      by_cases h5 : r.size ≤ 5
      · rw [if_pos rfl, if_neg (by omega), if_pos (by omega), decide_eq_true h5]
        by_cases he : r.size = (rows.headD ⟨#[]⟩).size
        · rw [if_pos (by omega), show (r.size == (rows.headD ⟨#[]⟩).size) = true from by simp [he]]
          rfl
        · rw [if_neg (by omega), show (r.size == (rows.headD ⟨#[]⟩).size) = false from beq_eq_false_iff_ne.2 he]
          rfl
      · rw [if_pos rfl, if_pos (by omega), decide_eq_false h5]
        rfl
theorem boRows_eq (a : ByteArray) (k : Nat) (hk : 200 ≤ k) : spec_boRows.f k a = some (if okRows (rowsOf a) = true then (rowsOf a, true) else ([], false)) := by
  unfold spec_boRows.f
  by_cases h : 40 < a.size
  · rw [if_pos (by omega)]
    cases ho : okRows (rowsOf a) with
    | false => rfl
    | true =>
      obtain ⟨w, h1, h2, h3, h4, h5, h6, h7, h8, h9⟩ := board_is ho
      omega
  · have h1 := rowsOf_ne a
    rw [if_neg (by omega), l1Split_eq a (by omega) k (by omega)]
    simp only [Option.bind_some]
    rw [l1In_eq]
    simp only [Option.bind_some]
    unfold okRows
    by_cases h5 : (rowsOf a).length ≤ 5
    · rw [if_pos (by simp; omega), decide_eq_true h5, Bool.true_and]
      have := boRows_l0 (rowsOf a) h1 (by omega) (fun r hr => by have := row_le a r hr; omega) (rowsOf a).length 0 k (by omega) (by omega)
      rw [List.drop_zero] at this
      exact this
    · rw [if_neg (by simp; omega), decide_eq_false h5]
      rfl
end Go.Proofs.YtpfahibbmkcnoaaDoor.XB
