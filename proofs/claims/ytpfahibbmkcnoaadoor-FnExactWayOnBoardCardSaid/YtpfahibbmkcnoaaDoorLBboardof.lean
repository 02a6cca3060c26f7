/- The cells of a board, for the program: for all boards. -/
import Derived.Test.YtpfahibbmkcnoaaDoorXB1
import Derived.Test.YtpfahibbmkcnoaaDoorXB2
import Derived.Test.YtpfahibbmkcnoaaDoorLBboard
namespace Go.Proofs.YtpfahibbmkcnoaaDoor.XB
set_option linter.unusedVariables false
set_option linter.unusedSimpArgs false
open Go Go.RowKit Go.Proofs.YtpfahibbmkcnoaaDoorW.PrintWords Go.Proofs.YtpfahibbmkcnoaaDoorB

theorem boardOf_eq (a : ByteArray) (hs : a.size ≤ 1000) : impl_boardOf.f a = some (mk (drop47 a.data.toList), (((spl a.data.toList).headD []).length : Int)) := by
  have h1 : strings_Index.f (a ++ (⟨#[47]⟩ : ByteArray)) ⟨#[47]⟩ = some (((spl a.data.toList).headD []).length : Int) := by
    show some (Lib.indexByte (a ++ (⟨#[47]⟩ : ByteArray)).data.toList 47) = _
    rw [show (a ++ (⟨#[47]⟩ : ByteArray)).data.toList = a.data.toList ++ [47] from by simp, spl_index]
  unfold impl_boardOf.f
  rw [if_pos (by omega), h1]
  unfold strings_ReplaceAll.f
  rw [if_pos ⟨rfl, rfl, by omega⟩]
  rfl
theorem board_high_eq {a : ByteArray} {w n : Nat} (hw : 1 ≤ w) (hw5 : w ≤ 5) (hn : n ≤ 5) (h : (drop47 a.data.toList).length = n * w) : impl_board_high.f (mk (drop47 a.data.toList)) (w : Int) = some (n : Int) := by
  unfold impl_board_high.f
  rw [if_neg (by omega), mk_size, h]
  have e : (((n * w : Nat) : Int)) / (w : Int) = (n : Int) := by
    rw [Int.natCast_mul, Int.mul_ediv_cancel _ (by omega)]
  rw [e, w64 (by omega) (by omega)]
end Go.Proofs.YtpfahibbmkcnoaaDoor.XB
