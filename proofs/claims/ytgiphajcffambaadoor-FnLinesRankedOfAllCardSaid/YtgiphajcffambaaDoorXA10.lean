/- The Lean functions that the Go functions of this seat compute, each with the proof that the Go function computes it, for every input (laws: FnLinesRankedOfAll). Conditions: none beyond those that each theorem names. Written by a program of this session over the kit's printer. -/
import Derived.Laws.Cover1
import Derived.Test.YtgiphajcffambaaDoorXA0
import Derived.Test.YtgiphajcffambaaDoorXA3
import Derived.Test.YtgiphajcffambaaDoorXA4
import Derived.Test.YtgiphajcffambaaDoorXA5
import Derived.Test.YtgiphajcffambaaDoorXA6
import Derived.Test.YtgiphajcffambaaDoorXA7
import Derived.Test.YtgiphajcffambaaDoorXA8
import Derived.Test.YtgiphajcffambaaDoorXA9
namespace Go.Proofs.YtgiphajcffambaaDoor.XA
open Go.RowKit Go.Proofs.YtgiphajcffambaaDoorW.PrintWords Go.Proofs.YtgiphajcffambaaDoorW.PrintLast Go.Proofs.YtgiphajcffambaaDoorW.PrintMore
attribute [local go_sem] max2_int min2_int max_two min_two max_three min_three max_four min_four   -- for this text's walks alone
attribute [local go_sem] Lib.run_min_strs Go.Proofs.YtgiphajcffambaaDoorXW.run_min2_strs Go.Proofs.YtgiphajcffambaaDoorXW.run_int_string
set_option linter.unusedVariables false
set_option linter.unusedSimpArgs false

/-! ### laws_FnLinesRankedOfAll: function 7 -/
def laws_FnLinesRankedOfAll.l0 : Nat → ByteArray → ByteArray → List (S46) → Int → Int → Option (Bool)
  | 0, _, _, _, _, _ => none
  | k + 1, x55, x69, x464, x465, x466 => if x466 < x465 then (if 0 ≤ x466 then (if x466 < (x464.length : Int) then ((impl_MakeMove.f x69 ((rd_T46 x464 x466).f0) ((rd_T46 x464 x466).f1)).bind fun bt263 => (if bt263.2 = true then (laws_FnLinesRankedOfAll.l0 k x55 bt263.1 x464 x465 (wrap64 (x466 + 1))) else (some false))) else (none)) else (none)) else (some (x69.toList == x55.toList))
def laws_FnLinesRankedOfAll.j6 : Nat → ByteArray → List (S46) → ByteArray → Bool → Int → Bool → Option (Bool)
  | 0, _, _, _, _, _, _ => none
  | k + 1, x5, x6, x55, x56, x59, x60 => if x56 = true then (laws_FnLinesRankedOfAll.l0 k x55 x5 x6 (x6.length : Int) 0) else (if x60 = true then (if 0 ≤ x59 then (if x59 ≤ (x6.length : Int) then ((impl_PlayMoves.f x5 (x6.take (x59 : Int).toNat)).bind fun bt269 => (if x59 < (x6.length : Int) then ((impl_CanMove.f bt269.1 ((rd_T46 x6 x59).f0) ((rd_T46 x6 x59).f1)).bind fun bt272 => (if bt269.2 = true then (if bt272.2 = true then (some (!bt272.1)) else (some false)) else (some false))) else (none))) else (none)) else (none)) else (some true))
def laws_FnLinesRankedOfAll.j5 : Nat → Int → Int → Int → ByteArray → List (S46) → ByteArray → Bool → ByteArray → Bool → Int → Bool → Option (Bool)
  | 0, _, _, _, _, _, _, _, _, _, _, _ => none
  | k + 1, x1, x2, x3, x5, x6, x47, x48, x55, x56, x59, x60 => if x48 = true then ((impl_PairsToPass.f k x47).bind fun bt257 => ((impl_WayToGo.f k x47).bind fun bt259 => (if bt257.2 = true then (if bt257.1 = (wrap64 (x1 * x3)) then (if bt259.2 = true then (if bt259.1 = (wrap64 ((wrap64 (x1 * (wrap64 (x2 + x3)))) + (wrap64 (x3 * (wrap64 (x1 + x2)))))) then (laws_FnLinesRankedOfAll.j6 k x5 x6 x55 x56 x59 x60) else (some false)) else (some false)) else (some false)) else (some false)))) else (laws_FnLinesRankedOfAll.j6 k x5 x6 x55 x56 x59 x60)
def laws_FnLinesRankedOfAll.j4 : Nat → Int → Int → Int → Int → ByteArray → List (S46) → ByteArray → Bool → ByteArray → Bool → Int → ByteArray → Bool → Int → Bool → Bool → Option (Bool)
  | 0, _, _, _, _, _, _, _, _, _, _, _, _, _, _, _, _ => none
  | k + 1, x1, x2, x3, x4, x5, x6, x43, x44, x47, x48, x51, x55, x56, x59, x60, x404 => if x404 = true then (some false) else (if x44 = true then ((impl_RankOfLine.f x43).bind fun bt255 => (if bt255.2 = true then (if bt255.1 = x4 then (if x4 ≥ x51 then (some false) else (laws_FnLinesRankedOfAll.j5 k x1 x2 x3 x5 x6 x47 x48 x55 x56 x59 x60)) else (some false)) else (some false))) else (laws_FnLinesRankedOfAll.j5 k x1 x2 x3 x5 x6 x47 x48 x55 x56 x59 x60))
def laws_FnLinesRankedOfAll.j3 : Nat → Int → Int → Int → Int → ByteArray → List (S46) → Option (Bool)
  | 0, _, _, _, _, _, _ => none
  | k + 1, x1, x2, x3, x4, x5, x6 => (impl_LineOfRank.f x1 x2 x3 x4).bind fun bt235 => ((spec_LineOfRank.f k x1 x2 x3 x4).bind fun bt237 => ((impl_FirstLine.f x1 x2 x3).bind fun bt239 => ((spec_FirstLine.f k x1 x2 x3).bind fun bt241 => ((impl_CountLines.f k x1 x2 x3).bind fun bt243 => ((spec_CountLines.f k x1 x2 x3).bind fun bt245 => ((impl_PlayMoves.f x5 x6).bind fun bt247 => ((spec_PlayMoves.f k x5 x6).bind fun bt249 => ((impl_MoveThatFails.f x5 x6).bind fun bt251 => ((spec_MoveThatFails.f k x5 x6).bind fun bt253 => (if (bt235.2 != bt237.2) = true then (laws_FnLinesRankedOfAll.j4 k x1 x2 x3 x4 x5 x6 bt235.1 bt235.2 bt239.1 bt239.2 bt243.1 bt247.1 bt247.2 bt251.1 bt251.2 true) else (if bt235.1.toList = bt237.1.toList then (if (bt239.2 != bt241.2) = true then (laws_FnLinesRankedOfAll.j4 k x1 x2 x3 x4 x5 x6 bt235.1 bt235.2 bt239.1 bt239.2 bt243.1 bt247.1 bt247.2 bt251.1 bt251.2 true) else (if bt239.1.toList = bt241.1.toList then (if (bt243.2 != bt245.2) = true then (laws_FnLinesRankedOfAll.j4 k x1 x2 x3 x4 x5 x6 bt235.1 bt235.2 bt239.1 bt239.2 bt243.1 bt247.1 bt247.2 bt251.1 bt251.2 true) else (if bt243.1 = bt245.1 then (if (bt243.2 != bt239.2) = true then (laws_FnLinesRankedOfAll.j4 k x1 x2 x3 x4 x5 x6 bt235.1 bt235.2 bt239.1 bt239.2 bt243.1 bt247.1 bt247.2 bt251.1 bt251.2 true) else (if (bt247.2 != bt249.2) = true then (laws_FnLinesRankedOfAll.j4 k x1 x2 x3 x4 x5 x6 bt235.1 bt235.2 bt239.1 bt239.2 bt243.1 bt247.1 bt247.2 bt251.1 bt251.2 true) else (if bt247.1.toList = bt249.1.toList then (if (bt251.2 != bt253.2) = true then (laws_FnLinesRankedOfAll.j4 k x1 x2 x3 x4 x5 x6 bt235.1 bt235.2 bt239.1 bt239.2 bt243.1 bt247.1 bt247.2 bt251.1 bt251.2 true) else (if bt251.1 = bt253.1 then (if bt247.2 = true then (laws_FnLinesRankedOfAll.j4 k x1 x2 x3 x4 x5 x6 bt235.1 bt235.2 bt239.1 bt239.2 bt243.1 bt247.1 bt247.2 bt251.1 bt251.2 bt251.2) else (laws_FnLinesRankedOfAll.j4 k x1 x2 x3 x4 x5 x6 bt235.1 bt235.2 bt239.1 bt239.2 bt243.1 bt247.1 bt247.2 bt251.1 bt251.2 false)) else (laws_FnLinesRankedOfAll.j4 k x1 x2 x3 x4 x5 x6 bt235.1 bt235.2 bt239.1 bt239.2 bt243.1 bt247.1 bt247.2 bt251.1 bt251.2 true))) else (laws_FnLinesRankedOfAll.j4 k x1 x2 x3 x4 x5 x6 bt235.1 bt235.2 bt239.1 bt239.2 bt243.1 bt247.1 bt247.2 bt251.1 bt251.2 true)))) else (laws_FnLinesRankedOfAll.j4 k x1 x2 x3 x4 x5 x6 bt235.1 bt235.2 bt239.1 bt239.2 bt243.1 bt247.1 bt247.2 bt251.1 bt251.2 true))) else (laws_FnLinesRankedOfAll.j4 k x1 x2 x3 x4 x5 x6 bt235.1 bt235.2 bt239.1 bt239.2 bt243.1 bt247.1 bt247.2 bt251.1 bt251.2 true))) else (laws_FnLinesRankedOfAll.j4 k x1 x2 x3 x4 x5 x6 bt235.1 bt235.2 bt239.1 bt239.2 bt243.1 bt247.1 bt247.2 bt251.1 bt251.2 true))))))))))))
def laws_FnLinesRankedOfAll.j2 : Nat → ByteArray → Int → Int → Int → Int → ByteArray → List (S46) → Int → Int → Int → Int → Int → Bool → Option (Bool)
  | 0, _, _, _, _, _, _, _, _, _, _, _, _, _ => none
  | k + 1, x0, x1, x2, x3, x4, x5, x6, x15, x19, x20, x21, x31, x257 => if x257 = true then (some false) else (if (wrap64 (x15 + 1)) < x31 then ((impl_LineOfRank.f x19 x20 x21 (wrap64 (x15 + 1))).bind fun bt233 => (if bt233.2 = true then (if ((Op.bytesLess x0.toList bt233.1.toList) = true) then (laws_FnLinesRankedOfAll.j3 k x1 x2 x3 x4 x5 x6) else (some false)) else (some false))) else (laws_FnLinesRankedOfAll.j3 k x1 x2 x3 x4 x5 x6))
def laws_FnLinesRankedOfAll.j1 : Nat → ByteArray → Int → Int → Int → Int → ByteArray → List (S46) → Int → Bool → Int → Int → Int → ByteArray → Bool → Option (Bool)
  | 0, _, _, _, _, _, _, _, _, _, _, _, _, _, _ => none
  | k + 1, x0, x1, x2, x3, x4, x5, x6, x15, x16, x19, x20, x21, x27, x172 => if x172 = true then (some false) else (if x16 = true then ((impl_CountLines.f k x19 x20 x21).bind fun bt223 => ((impl_LineOfRank.f x19 x20 x21 x15).bind fun bt225 => ((impl_WayToGo.f k x27).bind fun bt227 => ((impl_CountOf.f x27).bind fun bt229 => (if bt223.2 = true then (if x15 < 0 then (laws_FnLinesRankedOfAll.j2 k x0 x1 x2 x3 x4 x5 x6 x15 x19 x20 x21 bt223.1 true) else (if x15 ≥ bt223.1 then (laws_FnLinesRankedOfAll.j2 k x0 x1 x2 x3 x4 x5 x6 x15 x19 x20 x21 bt223.1 true) else (if bt225.2 = true then (if bt225.1.toList = x0.toList then (if (wrap64 ((wrap64 (x19 + x20)) + x21)) = (x0.size : Int) then (if bt227.2 = true then (if bt227.1 = 0 then (if bt229.2.2.2 = true then (if bt229.1 = x19 then (if bt229.2.1 = x20 then (laws_FnLinesRankedOfAll.j2 k x0 x1 x2 x3 x4 x5 x6 x15 x19 x20 x21 bt223.1 (bt229.2.2.1 != x21)) else (laws_FnLinesRankedOfAll.j2 k x0 x1 x2 x3 x4 x5 x6 x15 x19 x20 x21 bt223.1 true)) else (laws_FnLinesRankedOfAll.j2 k x0 x1 x2 x3 x4 x5 x6 x15 x19 x20 x21 bt223.1 true)) else (laws_FnLinesRankedOfAll.j2 k x0 x1 x2 x3 x4 x5 x6 x15 x19 x20 x21 bt223.1 true)) else (laws_FnLinesRankedOfAll.j2 k x0 x1 x2 x3 x4 x5 x6 x15 x19 x20 x21 bt223.1 true)) else (laws_FnLinesRankedOfAll.j2 k x0 x1 x2 x3 x4 x5 x6 x15 x19 x20 x21 bt223.1 true)) else (laws_FnLinesRankedOfAll.j2 k x0 x1 x2 x3 x4 x5 x6 x15 x19 x20 x21 bt223.1 true)) else (laws_FnLinesRankedOfAll.j2 k x0 x1 x2 x3 x4 x5 x6 x15 x19 x20 x21 bt223.1 true)) else (laws_FnLinesRankedOfAll.j2 k x0 x1 x2 x3 x4 x5 x6 x15 x19 x20 x21 bt223.1 true)))) else (laws_FnLinesRankedOfAll.j2 k x0 x1 x2 x3 x4 x5 x6 x15 x19 x20 x21 bt223.1 true)))))) else (laws_FnLinesRankedOfAll.j3 k x1 x2 x3 x4 x5 x6))
def laws_FnLinesRankedOfAll.j0 : Nat → ByteArray → Int → Int → Int → Int → ByteArray → List (S46) → Bool → Option (Bool)
  | 0, _, _, _, _, _, _, _, _ => none
  | k + 1, x0, x1, x2, x3, x4, x5, x6, x90 => if x90 = true then (some true) else ((impl_RankOfLine.f x0).bind fun bt207 => ((spec_RankOfLine.f k x0).bind fun bt209 => ((impl_CountOf.f x0).bind fun bt211 => ((spec_CountOf.f k x0).bind fun bt215 => ((impl_LastLine.f x0).bind fun bt219 => ((spec_LastLine.f k x0).bind fun bt221 => (if (bt207.2 != bt209.2) = true then (laws_FnLinesRankedOfAll.j1 k x0 x1 x2 x3 x4 x5 x6 bt207.1 bt207.2 bt211.1 bt211.2.1 bt211.2.2.1 bt219.1 true) else (if bt207.1 = bt209.1 then (if (bt211.2.2.2 != bt215.2.2.2) = true then (laws_FnLinesRankedOfAll.j1 k x0 x1 x2 x3 x4 x5 x6 bt207.1 bt207.2 bt211.1 bt211.2.1 bt211.2.2.1 bt219.1 true) else (if bt211.1 = bt215.1 then (if bt211.2.1 = bt215.2.1 then (if bt211.2.2.1 = bt215.2.2.1 then (if (bt219.2 != bt221.2) = true then (laws_FnLinesRankedOfAll.j1 k x0 x1 x2 x3 x4 x5 x6 bt207.1 bt207.2 bt211.1 bt211.2.1 bt211.2.2.1 bt219.1 true) else (if bt219.1.toList = bt221.1.toList then (if (bt211.2.2.2 != bt207.2) = true then (laws_FnLinesRankedOfAll.j1 k x0 x1 x2 x3 x4 x5 x6 bt207.1 bt207.2 bt211.1 bt211.2.1 bt211.2.2.1 bt219.1 true) else (laws_FnLinesRankedOfAll.j1 k x0 x1 x2 x3 x4 x5 x6 bt207.1 bt207.2 bt211.1 bt211.2.1 bt211.2.2.1 bt219.1 (bt219.2 != bt207.2))) else (laws_FnLinesRankedOfAll.j1 k x0 x1 x2 x3 x4 x5 x6 bt207.1 bt207.2 bt211.1 bt211.2.1 bt211.2.2.1 bt219.1 true))) else (laws_FnLinesRankedOfAll.j1 k x0 x1 x2 x3 x4 x5 x6 bt207.1 bt207.2 bt211.1 bt211.2.1 bt211.2.2.1 bt219.1 true)) else (laws_FnLinesRankedOfAll.j1 k x0 x1 x2 x3 x4 x5 x6 bt207.1 bt207.2 bt211.1 bt211.2.1 bt211.2.2.1 bt219.1 true)) else (laws_FnLinesRankedOfAll.j1 k x0 x1 x2 x3 x4 x5 x6 bt207.1 bt207.2 bt211.1 bt211.2.1 bt211.2.2.1 bt219.1 true))) else (laws_FnLinesRankedOfAll.j1 k x0 x1 x2 x3 x4 x5 x6 bt207.1 bt207.2 bt211.1 bt211.2.1 bt211.2.2.1 bt219.1 true)))))))))
def laws_FnLinesRankedOfAll.f (k : Nat) (a0 : ByteArray) (a1 : Int) (a2 : Int) (a3 : Int) (a4 : Int) (a5 : ByteArray) (l6 : List (S46)) : Option (Bool) := if (a0.size : Int) > 1048576 then (laws_FnLinesRankedOfAll.j0 k a0 a1 a2 a3 a4 a5 l6 true) else (if (a5.size : Int) > 1048576 then (laws_FnLinesRankedOfAll.j0 k a0 a1 a2 a3 a4 a5 l6 true) else (laws_FnLinesRankedOfAll.j0 k a0 a1 a2 a3 a4 a5 l6 (decide ((l6.length : Int) > 10000))))
theorem laws_FnLinesRankedOfAll.mono_l : ∀ k, (∀ y0 y1 y2 y3 y4 y5 y6 y7, LeO (laws_FnLinesRankedOfAll.j0 k y0 y1 y2 y3 y4 y5 y6 y7) (laws_FnLinesRankedOfAll.j0 (k + 1) y0 y1 y2 y3 y4 y5 y6 y7)) ∧ (∀ y0 y1 y2 y3 y4 y5 y6 y7 y8 y9 y10 y11 y12 y13, LeO (laws_FnLinesRankedOfAll.j1 k y0 y1 y2 y3 y4 y5 y6 y7 y8 y9 y10 y11 y12 y13) (laws_FnLinesRankedOfAll.j1 (k + 1) y0 y1 y2 y3 y4 y5 y6 y7 y8 y9 y10 y11 y12 y13)) ∧ (∀ y0 y1 y2 y3 y4 y5, LeO (laws_FnLinesRankedOfAll.j3 k y0 y1 y2 y3 y4 y5) (laws_FnLinesRankedOfAll.j3 (k + 1) y0 y1 y2 y3 y4 y5)) ∧ (∀ y0 y1 y2 y3 y4 y5 y6 y7 y8 y9 y10 y11 y12 y13 y14 y15, LeO (laws_FnLinesRankedOfAll.j4 k y0 y1 y2 y3 y4 y5 y6 y7 y8 y9 y10 y11 y12 y13 y14 y15) (laws_FnLinesRankedOfAll.j4 (k + 1) y0 y1 y2 y3 y4 y5 y6 y7 y8 y9 y10 y11 y12 y13 y14 y15)) ∧ (∀ y0 y1 y2 y3 y4 y5 y6 y7 y8 y9 y10, LeO (laws_FnLinesRankedOfAll.j5 k y0 y1 y2 y3 y4 y5 y6 y7 y8 y9 y10) (laws_FnLinesRankedOfAll.j5 (k + 1) y0 y1 y2 y3 y4 y5 y6 y7 y8 y9 y10)) ∧ (∀ y0 y1 y2 y3 y4 y5, LeO (laws_FnLinesRankedOfAll.j6 k y0 y1 y2 y3 y4 y5) (laws_FnLinesRankedOfAll.j6 (k + 1) y0 y1 y2 y3 y4 y5)) ∧ (∀ y0 y1 y2 y3 y4, LeO (laws_FnLinesRankedOfAll.l0 k y0 y1 y2 y3 y4) (laws_FnLinesRankedOfAll.l0 (k + 1) y0 y1 y2 y3 y4)) ∧ (∀ y0 y1 y2 y3 y4 y5 y6 y7 y8 y9 y10 y11 y12, LeO (laws_FnLinesRankedOfAll.j2 k y0 y1 y2 y3 y4 y5 y6 y7 y8 y9 y10 y11 y12) (laws_FnLinesRankedOfAll.j2 (k + 1) y0 y1 y2 y3 y4 y5 y6 y7 y8 y9 y10 y11 y12))
  | 0 => ⟨fun _ _ _ _ _ _ _ _ r h => by simp [laws_FnLinesRankedOfAll.j0] at h, fun _ _ _ _ _ _ _ _ _ _ _ _ _ _ r h => by simp [laws_FnLinesRankedOfAll.j1] at h, fun _ _ _ _ _ _ r h => by simp [laws_FnLinesRankedOfAll.j3] at h, fun _ _ _ _ _ _ _ _ _ _ _ _ _ _ _ _ r h => by simp [laws_FnLinesRankedOfAll.j4] at h, fun _ _ _ _ _ _ _ _ _ _ _ r h => by simp [laws_FnLinesRankedOfAll.j5] at h, fun _ _ _ _ _ _ r h => by simp [laws_FnLinesRankedOfAll.j6] at h, fun _ _ _ _ _ r h => by simp [laws_FnLinesRankedOfAll.l0] at h, fun _ _ _ _ _ _ _ _ _ _ _ _ _ r h => by simp [laws_FnLinesRankedOfAll.j2] at h⟩
  | k + 1 => by
    obtain ⟨ih0, ih1, ih2, ih3, ih4, ih5, ih6, ih7⟩ := laws_FnLinesRankedOfAll.mono_l k
    refine ⟨?_, ?_, ?_, ?_, ?_, ?_, ?_, ?_⟩
    · intro y0 y1 y2 y3 y4 y5 y6 y7
      unfold laws_FnLinesRankedOfAll.j0
      repeat' first
      | (with_reducible exact ih0 _ _ _ _ _ _ _ _)
      | (with_reducible exact ih1 _ _ _ _ _ _ _ _ _ _ _ _ _ _)
      | (with_reducible exact ih2 _ _ _ _ _ _)
      | (with_reducible exact ih3 _ _ _ _ _ _ _ _ _ _ _ _ _ _ _ _)
      | (with_reducible exact ih4 _ _ _ _ _ _ _ _ _ _ _)
      | (with_reducible exact ih5 _ _ _ _ _ _)
      | (with_reducible exact ih6 _ _ _ _ _)
      | (with_reducible exact ih7 _ _ _ _ _ _ _ _ _ _ _ _ _)
      | (with_reducible exact impl_CountLines.mono _ _ _ _)
      | (with_reducible exact impl_PairsToPass.mono _ _)
      | (with_reducible exact impl_WayToGo.mono _ _)
      | (with_reducible exact spec_CountLines.mono _ _ _ _)
      | (with_reducible exact spec_CountOf.mono _ _)
      | (with_reducible exact spec_FirstLine.mono _ _ _ _)
      | (with_reducible exact spec_LastLine.mono _ _)
      | (with_reducible exact spec_LineOfRank.mono _ _ _ _ _)
      | (with_reducible exact spec_MoveThatFails.mono _ _ _)
      | (with_reducible exact spec_PlayMoves.mono _ _ _)
      | (with_reducible exact spec_RankOfLine.mono _ _)
      | (with_reducible exact LeO.refl _)
      | (with_reducible exact LeO.none _)
      | (with_reducible refine LeO.ite ?_ ?_)
      | (with_reducible refine LeO.bind ?_ (fun _ => ?_))
      | exact ih0 _ _ _ _ _ _ _ _
      | exact ih1 _ _ _ _ _ _ _ _ _ _ _ _ _ _
      | exact ih2 _ _ _ _ _ _
      | exact ih3 _ _ _ _ _ _ _ _ _ _ _ _ _ _ _ _
      | exact ih4 _ _ _ _ _ _ _ _ _ _ _
      | exact ih5 _ _ _ _ _ _
      | exact ih6 _ _ _ _ _
      | exact ih7 _ _ _ _ _ _ _ _ _ _ _ _ _
      | exact impl_CountLines.mono _ _ _ _
      | exact impl_PairsToPass.mono _ _
      | exact impl_WayToGo.mono _ _
      | exact spec_CountLines.mono _ _ _ _
      | exact spec_CountOf.mono _ _
      | exact spec_FirstLine.mono _ _ _ _
      | exact spec_LastLine.mono _ _
      | exact spec_LineOfRank.mono _ _ _ _ _
      | exact spec_MoveThatFails.mono _ _ _
      | exact spec_PlayMoves.mono _ _ _
      | exact spec_RankOfLine.mono _ _
      | exact LeO.none _
      | refine LeO.ite ?_ ?_
      | refine LeO.bind ?_ (fun _ => ?_)
    · intro y0 y1 y2 y3 y4 y5 y6 y7 y8 y9 y10 y11 y12 y13
      unfold laws_FnLinesRankedOfAll.j1
      repeat' first
      | (with_reducible exact ih0 _ _ _ _ _ _ _ _)
      | (with_reducible exact ih1 _ _ _ _ _ _ _ _ _ _ _ _ _ _)
      | (with_reducible exact ih2 _ _ _ _ _ _)
      | (with_reducible exact ih3 _ _ _ _ _ _ _ _ _ _ _ _ _ _ _ _)
      | (with_reducible exact ih4 _ _ _ _ _ _ _ _ _ _ _)
      | (with_reducible exact ih5 _ _ _ _ _ _)
      | (with_reducible exact ih6 _ _ _ _ _)
      | (with_reducible exact ih7 _ _ _ _ _ _ _ _ _ _ _ _ _)
      | (with_reducible exact impl_CountLines.mono _ _ _ _)
      | (with_reducible exact impl_PairsToPass.mono _ _)
      | (with_reducible exact impl_WayToGo.mono _ _)
      | (with_reducible exact spec_CountLines.mono _ _ _ _)
      | (with_reducible exact spec_CountOf.mono _ _)
      | (with_reducible exact spec_FirstLine.mono _ _ _ _)
      | (with_reducible exact spec_LastLine.mono _ _)
      | (with_reducible exact spec_LineOfRank.mono _ _ _ _ _)
      | (with_reducible exact spec_MoveThatFails.mono _ _ _)
      | (with_reducible exact spec_PlayMoves.mono _ _ _)
      | (with_reducible exact spec_RankOfLine.mono _ _)
      | (with_reducible exact LeO.refl _)
      | (with_reducible exact LeO.none _)
      | (with_reducible refine LeO.ite ?_ ?_)
      | (with_reducible refine LeO.bind ?_ (fun _ => ?_))
      | exact ih0 _ _ _ _ _ _ _ _
      | exact ih1 _ _ _ _ _ _ _ _ _ _ _ _ _ _
      | exact ih2 _ _ _ _ _ _
      | exact ih3 _ _ _ _ _ _ _ _ _ _ _ _ _ _ _ _
      | exact ih4 _ _ _ _ _ _ _ _ _ _ _
      | exact ih5 _ _ _ _ _ _
      | exact ih6 _ _ _ _ _
      | exact ih7 _ _ _ _ _ _ _ _ _ _ _ _ _
      | exact impl_CountLines.mono _ _ _ _
      | exact impl_PairsToPass.mono _ _
      | exact impl_WayToGo.mono _ _
      | exact spec_CountLines.mono _ _ _ _
      | exact spec_CountOf.mono _ _
      | exact spec_FirstLine.mono _ _ _ _
      | exact spec_LastLine.mono _ _
      | exact spec_LineOfRank.mono _ _ _ _ _
      | exact spec_MoveThatFails.mono _ _ _
      | exact spec_PlayMoves.mono _ _ _
      | exact spec_RankOfLine.mono _ _
      | exact LeO.none _
      | refine LeO.ite ?_ ?_
      | refine LeO.bind ?_ (fun _ => ?_)
    · intro y0 y1 y2 y3 y4 y5
      unfold laws_FnLinesRankedOfAll.j3
      repeat' first
      | (with_reducible exact ih0 _ _ _ _ _ _ _ _)
      | (with_reducible exact ih1 _ _ _ _ _ _ _ _ _ _ _ _ _ _)
      | (with_reducible exact ih2 _ _ _ _ _ _)
      | (with_reducible exact ih3 _ _ _ _ _ _ _ _ _ _ _ _ _ _ _ _)
      | (with_reducible exact ih4 _ _ _ _ _ _ _ _ _ _ _)
      | (with_reducible exact ih5 _ _ _ _ _ _)
      | (with_reducible exact ih6 _ _ _ _ _)
      | (with_reducible exact ih7 _ _ _ _ _ _ _ _ _ _ _ _ _)
      | (with_reducible exact impl_CountLines.mono _ _ _ _)
      | (with_reducible exact impl_PairsToPass.mono _ _)
      | (with_reducible exact impl_WayToGo.mono _ _)
      | (with_reducible exact spec_CountLines.mono _ _ _ _)
      | (with_reducible exact spec_CountOf.mono _ _)
      | (with_reducible exact spec_FirstLine.mono _ _ _ _)
      | (with_reducible exact spec_LastLine.mono _ _)
      | (with_reducible exact spec_LineOfRank.mono _ _ _ _ _)
      | (with_reducible exact spec_MoveThatFails.mono _ _ _)
      | (with_reducible exact spec_PlayMoves.mono _ _ _)
      | (with_reducible exact spec_RankOfLine.mono _ _)
      | (with_reducible exact LeO.refl _)
      | (with_reducible exact LeO.none _)
      | (with_reducible refine LeO.ite ?_ ?_)
      | (with_reducible refine LeO.bind ?_ (fun _ => ?_))
      | exact ih0 _ _ _ _ _ _ _ _
      | exact ih1 _ _ _ _ _ _ _ _ _ _ _ _ _ _
      | exact ih2 _ _ _ _ _ _
      | exact ih3 _ _ _ _ _ _ _ _ _ _ _ _ _ _ _ _
      | exact ih4 _ _ _ _ _ _ _ _ _ _ _
      | exact ih5 _ _ _ _ _ _
      | exact ih6 _ _ _ _ _
      | exact ih7 _ _ _ _ _ _ _ _ _ _ _ _ _
      | exact impl_CountLines.mono _ _ _ _
      | exact impl_PairsToPass.mono _ _
      | exact impl_WayToGo.mono _ _
      | exact spec_CountLines.mono _ _ _ _
      | exact spec_CountOf.mono _ _
      | exact spec_FirstLine.mono _ _ _ _
      | exact spec_LastLine.mono _ _
      | exact spec_LineOfRank.mono _ _ _ _ _
      | exact spec_MoveThatFails.mono _ _ _
      | exact spec_PlayMoves.mono _ _ _
      | exact spec_RankOfLine.mono _ _
      | exact LeO.none _
      | refine LeO.ite ?_ ?_
      | refine LeO.bind ?_ (fun _ => ?_)
    · intro y0 y1 y2 y3 y4 y5 y6 y7 y8 y9 y10 y11 y12 y13 y14 y15
      unfold laws_FnLinesRankedOfAll.j4
      repeat' first
      | (with_reducible exact ih0 _ _ _ _ _ _ _ _)
      | (with_reducible exact ih1 _ _ _ _ _ _ _ _ _ _ _ _ _ _)
      | (with_reducible exact ih2 _ _ _ _ _ _)
      | (with_reducible exact ih3 _ _ _ _ _ _ _ _ _ _ _ _ _ _ _ _)
      | (with_reducible exact ih4 _ _ _ _ _ _ _ _ _ _ _)
      | (with_reducible exact ih5 _ _ _ _ _ _)
      | (with_reducible exact ih6 _ _ _ _ _)
      | (with_reducible exact ih7 _ _ _ _ _ _ _ _ _ _ _ _ _)
      | (with_reducible exact impl_CountLines.mono _ _ _ _)
      | (with_reducible exact impl_PairsToPass.mono _ _)
      | (with_reducible exact impl_WayToGo.mono _ _)
      | (with_reducible exact spec_CountLines.mono _ _ _ _)
      | (with_reducible exact spec_CountOf.mono _ _)
      | (with_reducible exact spec_FirstLine.mono _ _ _ _)
      | (with_reducible exact spec_LastLine.mono _ _)
      | (with_reducible exact spec_LineOfRank.mono _ _ _ _ _)
      | (with_reducible exact spec_MoveThatFails.mono _ _ _)
      | (with_reducible exact spec_PlayMoves.mono _ _ _)
      | (with_reducible exact spec_RankOfLine.mono _ _)
      | (with_reducible exact LeO.refl _)
      | (with_reducible exact LeO.none _)
      | (with_reducible refine LeO.ite ?_ ?_)
      | (with_reducible refine LeO.bind ?_ (fun _ => ?_))
      | exact ih0 _ _ _ _ _ _ _ _
      | exact ih1 _ _ _ _ _ _ _ _ _ _ _ _ _ _
      | exact ih2 _ _ _ _ _ _
      | exact ih3 _ _ _ _ _ _ _ _ _ _ _ _ _ _ _ _
      | exact ih4 _ _ _ _ _ _ _ _ _ _ _
      | exact ih5 _ _ _ _ _ _
      | exact ih6 _ _ _ _ _
      | exact ih7 _ _ _ _ _ _ _ _ _ _ _ _ _
      | exact impl_CountLines.mono _ _ _ _
      | exact impl_PairsToPass.mono _ _
      | exact impl_WayToGo.mono _ _
      | exact spec_CountLines.mono _ _ _ _
      | exact spec_CountOf.mono _ _
      | exact spec_FirstLine.mono _ _ _ _
      | exact spec_LastLine.mono _ _
      | exact spec_LineOfRank.mono _ _ _ _ _
      | exact spec_MoveThatFails.mono _ _ _
      | exact spec_PlayMoves.mono _ _ _
      | exact spec_RankOfLine.mono _ _
      | exact LeO.none _
      | refine LeO.ite ?_ ?_
      | refine LeO.bind ?_ (fun _ => ?_)
    · intro y0 y1 y2 y3 y4 y5 y6 y7 y8 y9 y10
      unfold laws_FnLinesRankedOfAll.j5
      repeat' first
      | (with_reducible exact ih0 _ _ _ _ _ _ _ _)
      | (with_reducible exact ih1 _ _ _ _ _ _ _ _ _ _ _ _ _ _)
      | (with_reducible exact ih2 _ _ _ _ _ _)
      | (with_reducible exact ih3 _ _ _ _ _ _ _ _ _ _ _ _ _ _ _ _)
      | (with_reducible exact ih4 _ _ _ _ _ _ _ _ _ _ _)
      | (with_reducible exact ih5 _ _ _ _ _ _)
      | (with_reducible exact ih6 _ _ _ _ _)
      | (with_reducible exact ih7 _ _ _ _ _ _ _ _ _ _ _ _ _)
      | (with_reducible exact impl_CountLines.mono _ _ _ _)
      | (with_reducible exact impl_PairsToPass.mono _ _)
      | (with_reducible exact impl_WayToGo.mono _ _)
      | (with_reducible exact spec_CountLines.mono _ _ _ _)
      | (with_reducible exact spec_CountOf.mono _ _)
      | (with_reducible exact spec_FirstLine.mono _ _ _ _)
      | (with_reducible exact spec_LastLine.mono _ _)
      | (with_reducible exact spec_LineOfRank.mono _ _ _ _ _)
      | (with_reducible exact spec_MoveThatFails.mono _ _ _)
      | (with_reducible exact spec_PlayMoves.mono _ _ _)
      | (with_reducible exact spec_RankOfLine.mono _ _)
      | (with_reducible exact LeO.refl _)
      | (with_reducible exact LeO.none _)
      | (with_reducible refine LeO.ite ?_ ?_)
      | (with_reducible refine LeO.bind ?_ (fun _ => ?_))
      | exact ih0 _ _ _ _ _ _ _ _
      | exact ih1 _ _ _ _ _ _ _ _ _ _ _ _ _ _
      | exact ih2 _ _ _ _ _ _
      | exact ih3 _ _ _ _ _ _ _ _ _ _ _ _ _ _ _ _
      | exact ih4 _ _ _ _ _ _ _ _ _ _ _
      | exact ih5 _ _ _ _ _ _
      | exact ih6 _ _ _ _ _
      | exact ih7 _ _ _ _ _ _ _ _ _ _ _ _ _
      | exact impl_CountLines.mono _ _ _ _
      | exact impl_PairsToPass.mono _ _
      | exact impl_WayToGo.mono _ _
      | exact spec_CountLines.mono _ _ _ _
      | exact spec_CountOf.mono _ _
      | exact spec_FirstLine.mono _ _ _ _
      | exact spec_LastLine.mono _ _
      | exact spec_LineOfRank.mono _ _ _ _ _
      | exact spec_MoveThatFails.mono _ _ _
      | exact spec_PlayMoves.mono _ _ _
      | exact spec_RankOfLine.mono _ _
      | exact LeO.none _
      | refine LeO.ite ?_ ?_
      | refine LeO.bind ?_ (fun _ => ?_)
    · intro y0 y1 y2 y3 y4 y5
      unfold laws_FnLinesRankedOfAll.j6
      repeat' first
      | (with_reducible exact ih0 _ _ _ _ _ _ _ _)
      | (with_reducible exact ih1 _ _ _ _ _ _ _ _ _ _ _ _ _ _)
      | (with_reducible exact ih2 _ _ _ _ _ _)
      | (with_reducible exact ih3 _ _ _ _ _ _ _ _ _ _ _ _ _ _ _ _)
      | (with_reducible exact ih4 _ _ _ _ _ _ _ _ _ _ _)
      | (with_reducible exact ih5 _ _ _ _ _ _)
      | (with_reducible exact ih6 _ _ _ _ _)
      | (with_reducible exact ih7 _ _ _ _ _ _ _ _ _ _ _ _ _)
      | (with_reducible exact impl_CountLines.mono _ _ _ _)
      | (with_reducible exact impl_PairsToPass.mono _ _)
      | (with_reducible exact impl_WayToGo.mono _ _)
      | (with_reducible exact spec_CountLines.mono _ _ _ _)
      | (with_reducible exact spec_CountOf.mono _ _)
      | (with_reducible exact spec_FirstLine.mono _ _ _ _)
      | (with_reducible exact spec_LastLine.mono _ _)
      | (with_reducible exact spec_LineOfRank.mono _ _ _ _ _)
      | (with_reducible exact spec_MoveThatFails.mono _ _ _)
      | (with_reducible exact spec_PlayMoves.mono _ _ _)
      | (with_reducible exact spec_RankOfLine.mono _ _)
      | (with_reducible exact LeO.refl _)
      | (with_reducible exact LeO.none _)
      | (with_reducible refine LeO.ite ?_ ?_)
      | (with_reducible refine LeO.bind ?_ (fun _ => ?_))
      | exact ih0 _ _ _ _ _ _ _ _
      | exact ih1 _ _ _ _ _ _ _ _ _ _ _ _ _ _
      | exact ih2 _ _ _ _ _ _
      | exact ih3 _ _ _ _ _ _ _ _ _ _ _ _ _ _ _ _
      | exact ih4 _ _ _ _ _ _ _ _ _ _ _
      | exact ih5 _ _ _ _ _ _
      | exact ih6 _ _ _ _ _
      | exact ih7 _ _ _ _ _ _ _ _ _ _ _ _ _
      | exact impl_CountLines.mono _ _ _ _
      | exact impl_PairsToPass.mono _ _
      | exact impl_WayToGo.mono _ _
      | exact spec_CountLines.mono _ _ _ _
      | exact spec_CountOf.mono _ _
      | exact spec_FirstLine.mono _ _ _ _
      | exact spec_LastLine.mono _ _
      | exact spec_LineOfRank.mono _ _ _ _ _
      | exact spec_MoveThatFails.mono _ _ _
      | exact spec_PlayMoves.mono _ _ _
      | exact spec_RankOfLine.mono _ _
      | exact LeO.none _
      | refine LeO.ite ?_ ?_
      | refine LeO.bind ?_ (fun _ => ?_)
    · intro y0 y1 y2 y3 y4
      unfold laws_FnLinesRankedOfAll.l0
      repeat' first
      | (with_reducible exact ih0 _ _ _ _ _ _ _ _)
      | (with_reducible exact ih1 _ _ _ _ _ _ _ _ _ _ _ _ _ _)
      | (with_reducible exact ih2 _ _ _ _ _ _)
      | (with_reducible exact ih3 _ _ _ _ _ _ _ _ _ _ _ _ _ _ _ _)
      | (with_reducible exact ih4 _ _ _ _ _ _ _ _ _ _ _)
      | (with_reducible exact ih5 _ _ _ _ _ _)
      | (with_reducible exact ih6 _ _ _ _ _)
      | (with_reducible exact ih7 _ _ _ _ _ _ _ _ _ _ _ _ _)
      | (with_reducible exact impl_CountLines.mono _ _ _ _)
      | (with_reducible exact impl_PairsToPass.mono _ _)
      | (with_reducible exact impl_WayToGo.mono _ _)
      | (with_reducible exact spec_CountLines.mono _ _ _ _)
      | (with_reducible exact spec_CountOf.mono _ _)
      | (with_reducible exact spec_FirstLine.mono _ _ _ _)
      | (with_reducible exact spec_LastLine.mono _ _)
      | (with_reducible exact spec_LineOfRank.mono _ _ _ _ _)
      | (with_reducible exact spec_MoveThatFails.mono _ _ _)
      | (with_reducible exact spec_PlayMoves.mono _ _ _)
      | (with_reducible exact spec_RankOfLine.mono _ _)
      | (with_reducible exact LeO.refl _)
      | (with_reducible exact LeO.none _)
      | (with_reducible refine LeO.ite ?_ ?_)
      | (with_reducible refine LeO.bind ?_ (fun _ => ?_))
      | exact ih0 _ _ _ _ _ _ _ _
      | exact ih1 _ _ _ _ _ _ _ _ _ _ _ _ _ _
      | exact ih2 _ _ _ _ _ _
      | exact ih3 _ _ _ _ _ _ _ _ _ _ _ _ _ _ _ _
      | exact ih4 _ _ _ _ _ _ _ _ _ _ _
      | exact ih5 _ _ _ _ _ _
      | exact ih6 _ _ _ _ _
      | exact ih7 _ _ _ _ _ _ _ _ _ _ _ _ _
      | exact impl_CountLines.mono _ _ _ _
      | exact impl_PairsToPass.mono _ _
      | exact impl_WayToGo.mono _ _
      | exact spec_CountLines.mono _ _ _ _
      | exact spec_CountOf.mono _ _
      | exact spec_FirstLine.mono _ _ _ _
      | exact spec_LastLine.mono _ _
      | exact spec_LineOfRank.mono _ _ _ _ _
      | exact spec_MoveThatFails.mono _ _ _
      | exact spec_PlayMoves.mono _ _ _
      | exact spec_RankOfLine.mono _ _
      | exact LeO.none _
      | refine LeO.ite ?_ ?_
      | refine LeO.bind ?_ (fun _ => ?_)
    · intro y0 y1 y2 y3 y4 y5 y6 y7 y8 y9 y10 y11 y12
      unfold laws_FnLinesRankedOfAll.j2
      repeat' first
      | (with_reducible exact ih0 _ _ _ _ _ _ _ _)
      | (with_reducible exact ih1 _ _ _ _ _ _ _ _ _ _ _ _ _ _)
      | (with_reducible exact ih2 _ _ _ _ _ _)
      | (with_reducible exact ih3 _ _ _ _ _ _ _ _ _ _ _ _ _ _ _ _)
      | (with_reducible exact ih4 _ _ _ _ _ _ _ _ _ _ _)
      | (with_reducible exact ih5 _ _ _ _ _ _)
      | (with_reducible exact ih6 _ _ _ _ _)
      | (with_reducible exact ih7 _ _ _ _ _ _ _ _ _ _ _ _ _)
      | (with_reducible exact impl_CountLines.mono _ _ _ _)
      | (with_reducible exact impl_PairsToPass.mono _ _)
      | (with_reducible exact impl_WayToGo.mono _ _)
      | (with_reducible exact spec_CountLines.mono _ _ _ _)
      | (with_reducible exact spec_CountOf.mono _ _)
      | (with_reducible exact spec_FirstLine.mono _ _ _ _)
      | (with_reducible exact spec_LastLine.mono _ _)
      | (with_reducible exact spec_LineOfRank.mono _ _ _ _ _)
      | (with_reducible exact spec_MoveThatFails.mono _ _ _)
      | (with_reducible exact spec_PlayMoves.mono _ _ _)
      | (with_reducible exact spec_RankOfLine.mono _ _)
      | (with_reducible exact LeO.refl _)
      | (with_reducible exact LeO.none _)
      | (with_reducible refine LeO.ite ?_ ?_)
      | (with_reducible refine LeO.bind ?_ (fun _ => ?_))
      | exact ih0 _ _ _ _ _ _ _ _
      | exact ih1 _ _ _ _ _ _ _ _ _ _ _ _ _ _
      | exact ih2 _ _ _ _ _ _
      | exact ih3 _ _ _ _ _ _ _ _ _ _ _ _ _ _ _ _
      | exact ih4 _ _ _ _ _ _ _ _ _ _ _
      | exact ih5 _ _ _ _ _ _
      | exact ih6 _ _ _ _ _
      | exact ih7 _ _ _ _ _ _ _ _ _ _ _ _ _
      | exact impl_CountLines.mono _ _ _ _
      | exact impl_PairsToPass.mono _ _
      | exact impl_WayToGo.mono _ _
      | exact spec_CountLines.mono _ _ _ _
      | exact spec_CountOf.mono _ _
      | exact spec_FirstLine.mono _ _ _ _
      | exact spec_LastLine.mono _ _
      | exact spec_LineOfRank.mono _ _ _ _ _
      | exact spec_MoveThatFails.mono _ _ _
      | exact spec_PlayMoves.mono _ _ _
      | exact spec_RankOfLine.mono _ _
      | exact LeO.none _
      | refine LeO.ite ?_ ?_
      | refine LeO.bind ?_ (fun _ => ?_)
theorem laws_FnLinesRankedOfAll.mono : ∀ a0 a1 a2 a3 a4 a5 a6 k, LeO (laws_FnLinesRankedOfAll.f k a0 a1 a2 a3 a4 a5 a6) (laws_FnLinesRankedOfAll.f (k + 1) a0 a1 a2 a3 a4 a5 a6) := by
  intro a0 a1 a2 a3 a4 a5 a6 k
  obtain ⟨ih0, ih1, ih2, ih3, ih4, ih5, ih6, ih7⟩ := laws_FnLinesRankedOfAll.mono_l k
  unfold laws_FnLinesRankedOfAll.f
  repeat' first
      | (with_reducible exact ih0 _ _ _ _ _ _ _ _)
      | (with_reducible exact ih1 _ _ _ _ _ _ _ _ _ _ _ _ _ _)
      | (with_reducible exact ih2 _ _ _ _ _ _)
      | (with_reducible exact ih3 _ _ _ _ _ _ _ _ _ _ _ _ _ _ _ _)
      | (with_reducible exact ih4 _ _ _ _ _ _ _ _ _ _ _)
      | (with_reducible exact ih5 _ _ _ _ _ _)
      | (with_reducible exact ih6 _ _ _ _ _)
      | (with_reducible exact ih7 _ _ _ _ _ _ _ _ _ _ _ _ _)
      | (with_reducible exact impl_CountLines.mono _ _ _ _)
      | (with_reducible exact impl_PairsToPass.mono _ _)
      | (with_reducible exact impl_WayToGo.mono _ _)
      | (with_reducible exact spec_CountLines.mono _ _ _ _)
      | (with_reducible exact spec_CountOf.mono _ _)
      | (with_reducible exact spec_FirstLine.mono _ _ _ _)
      | (with_reducible exact spec_LastLine.mono _ _)
      | (with_reducible exact spec_LineOfRank.mono _ _ _ _ _)
      | (with_reducible exact spec_MoveThatFails.mono _ _ _)
      | (with_reducible exact spec_PlayMoves.mono _ _ _)
      | (with_reducible exact spec_RankOfLine.mono _ _)
      | (with_reducible exact LeO.refl _)
      | (with_reducible exact LeO.none _)
      | (with_reducible refine LeO.ite ?_ ?_)
      | (with_reducible refine LeO.bind ?_ (fun _ => ?_))
      | exact ih0 _ _ _ _ _ _ _ _
      | exact ih1 _ _ _ _ _ _ _ _ _ _ _ _ _ _
      | exact ih2 _ _ _ _ _ _
      | exact ih3 _ _ _ _ _ _ _ _ _ _ _ _ _ _ _ _
      | exact ih4 _ _ _ _ _ _ _ _ _ _ _
      | exact ih5 _ _ _ _ _ _
      | exact ih6 _ _ _ _ _
      | exact ih7 _ _ _ _ _ _ _ _ _ _ _ _ _
      | exact impl_CountLines.mono _ _ _ _
      | exact impl_PairsToPass.mono _ _
      | exact impl_WayToGo.mono _ _
      | exact spec_CountLines.mono _ _ _ _
      | exact spec_CountOf.mono _ _
      | exact spec_FirstLine.mono _ _ _ _
      | exact spec_LastLine.mono _ _
      | exact spec_LineOfRank.mono _ _ _ _ _
      | exact spec_MoveThatFails.mono _ _ _
      | exact spec_PlayMoves.mono _ _ _
      | exact spec_RankOfLine.mono _ _
      | exact LeO.none _
      | refine LeO.ite ?_ ?_
      | refine LeO.bind ?_ (fun _ => ?_)

end Go.Proofs.YtgiphajcffambaaDoor.XA
