/- A move made, for the reference and for the program: for all texts of at most 1000 bytes and two different places in them. -/
import Derived.Test.YtjgijaocinpkhaaDoorXO1
import Derived.Test.YtjgijaocinpkhaaDoorXO4
import Derived.Test.YtjgijaocinpkhaaDoorLOline0
import Derived.Test.YtjgijaocinpkhaaDoorXW
namespace Go.Proofs.YtjgijaocinpkhaaDoor.XO
set_option linter.unusedVariables false
set_option linter.unusedSimpArgs false
open Go Go.RowKit Go.Proofs.YtjgijaocinpkhaaDoorW.PrintWords Go.Proofs.YtjgijaocinpkhaaDoorB

theorem ba_eq {x y : ByteArray} (h : x.data.toList = y.data.toList) : x = y := by rw [← Lib.mk_data x, ← Lib.mk_data y, h]
theorem list_extract (a : ByteArray) (i j : Nat) : (a.extract i j).data.toList = (a.data.toList.drop i).take (j - i) := by
  simp
theorem list_append (x y : ByteArray) : (x ++ y).data.toList = x.data.toList ++ y.data.toList := by simp
/-- the text with the sign of one place moved to another -/
def mv (a : ByteArray) (f t : Int) : ByteArray := ⟨((a.data.toList.set t.toNat (a.data.toList.getD f.toNat 0)).set f.toNat 46).toArray⟩
theorem mv_size (a : ByteArray) (f t : Int) : (mv a f t).size = a.size := by
  unfold mv ByteArray.size
  simp
theorem liPut_eq (a : ByteArray) (hs : a.size ≤ 1000) (i : Nat) (hi : i < a.size) (c : UInt8) : spec_liPut.f a (i : Int) ⟨#[c]⟩ = some ⟨(a.data.toList.set i c).toArray⟩ := by
  unfold spec_liPut.f
  rw [w64_succ (n := a.size) hi (by omega), Int.toNat_natCast, Int.toNat_natCast]
  have s1 : (a.extract 0 i).size = i := by rw [ByteArray.size_extract]; omega
  have s2 : (⟨#[c]⟩ : ByteArray).size = 1 := rfl
  have s3 : (a.extract (i + 1) a.size).size = a.size - (i + 1) := by rw [ByteArray.size_extract]; omega
  rw [if_pos (by omega), if_pos (by omega), if_pos (by rw [s1, s2]; omega), if_pos (by omega), if_pos (by omega), if_pos (by rw [ByteArray.size_append, s1, s2, s3]; omega)]
  congr 1
  apply ba_eq
  have hl : i < a.data.toList.length := by rw [data_length]; exact hi
  rw [list_append, list_append, list_extract, list_extract, List.set_eq_take_append_cons_drop, if_pos hl, List.take_of_length_le (l := List.drop (i + 1) a.data.toList) (by rw [List.length_drop, data_length]; exact Nat.le_refl _)]
  simp
theorem extract_one (a : ByteArray) (i : Nat) (hi : i < a.size) : a.extract i (i + 1) = ⟨#[a.data.toList.getD i 0]⟩ := by
  apply ba_eq
  have hl : i < a.data.toList.length := by rw [data_length]; exact hi
  rw [list_extract, List.drop_eq_getElem_cons hl, show i + 1 - i = 1 from by omega, List.getD_eq_getElem?_getD, List.getElem?_eq_getElem hl]
  rfl
theorem liMake_eq (a : ByteArray) (hs : a.size ≤ 1000) (f t : Int) (f0 : 0 ≤ f) (f1 : f < (a.size : Int)) (t0 : 0 ≤ t) (t1 : t < (a.size : Int)) (ne : f ≠ t) : spec_liMake.f a f t = some (mv a f t) := by
  obtain ⟨i, rfl⟩ : ∃ i : Nat, f = (i : Int) := ⟨f.toNat, by omega⟩
  obtain ⟨j, rfl⟩ : ∃ j : Nat, t = (j : Int) := ⟨t.toNat, by omega⟩
  unfold spec_liMake.f mv
  rw [w64_succ (n := a.size) (by omega) (by omega), Int.toNat_natCast, Int.toNat_natCast, Int.toNat_natCast, if_pos (by omega), if_pos (by omega), if_pos (by omega), liPut_eq a hs i (by omega) 46, extract_one a i (by omega)]
  simp only [Option.bind_some]
  have e : (⟨(a.data.toList.set i 46).toArray⟩ : ByteArray).size = a.size := by unfold ByteArray.size; simp
  rw [liPut_eq _ (by omega) j (by omega)]
  simp only [Option.bind_some]
  congr 2
  rw [List.set_comm _ _ (show j ≠ i from by omega)]
theorem impl_made_eq (a : ByteArray) (hs : a.size ≤ 1000) (f t : Int) (f0 : 0 ≤ f) (f1 : f < (a.size : Int)) (t0 : 0 ≤ t) (t1 : t < (a.size : Int)) (ne : f ≠ t) : impl_made.f a f t = some (mv a f t) :=
  if_pos ⟨by omega, f0, f1, t0, t1, ne⟩
end Go.Proofs.YtjgijaocinpkhaaDoor.XO
