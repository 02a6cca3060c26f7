/- The Lean functions that the Go functions of this seat compute, each with the proof that the Go function computes it, for every input (laws: FnExactLinesBefore). Conditions: none beyond those that each theorem names. Written by a program of this session over the kit's printer. -/
import Derived.Test.YtpfahibbmkcnoaaDoorProg
import Derived.Below
import Derived.Deep.Draws
import Derived.Deep.AppendLies
import Derived.Maps.AppendAt
import Derived.OwnWalk
import Derived.Laws.BytesArg
import Derived.Laws.MakeOwn
import Derived.Laws.OwnMore
import Derived.Deep.OwnRows
import Derived.Tactics
import Derived.Lib.ConvBytes
import Derived.Laws.Slices
import Derived.WalkKit
import Derived.KernelRfl
import Derived.RowKit3
import Derived.Deep.LoopGhost
import Derived.Deep.QuietTactic
import Derived.BigQuiet
import Derived.WideLaws
import Derived.Deep.DeepCutAuto
import Derived.Deep.CutBlock
import Derived.Deep.RegionHeld3
import Derived.Laws.Rows
import Derived.Lib.AppendStr
import Derived.ArgAppend
import Derived.Laws.IdiomCopy
import Derived.OrdersHeld
import Derived.Laws.BitsLemmas
import Derived.RowKit
import Derived.BigRegion
import Derived.RegionTactic
import Derived.Test.YtpfahibbmkcnoaaDoorShelf
import Derived.Test.YtpfahibbmkcnoaaDoorSorts
import Derived.Test.YtpfahibbmkcnoaaDoorXW
import Derived.Lib.MinMaxS
import Derived.Test.YtpfahibbmkcnoaaDoorWWords
import Derived.Test.YtpfahibbmkcnoaaDoorWLast
import Derived.Test.YtpfahibbmkcnoaaDoorWTab
import Derived.Test.YtpfahibbmkcnoaaDoorWFour
import Derived.Test.YtpfahibbmkcnoaaDoorWQPut
import Derived.Test.YtpfahibbmkcnoaaDoorWApart
import Derived.Test.YtpfahibbmkcnoaaDoorWArr
import Derived.Test.YtpfahibbmkcnoaaDoorWZeros
import Derived.Test.YtpfahibbmkcnoaaDoorWFoot
import Derived.Test.YtpfahibbmkcnoaaDoorWKept
import Derived.Test.YtpfahibbmkcnoaaDoorWShare
import Derived.Test.YtpfahibbmkcnoaaDoorWN
import Derived.Test.YtpfahibbmkcnoaaDoorWFootNe
import Derived.Test.YtpfahibbmkcnoaaDoorWAt
import Derived.Test.YtpfahibbmkcnoaaDoorWEqStruct
import Derived.Test.YtpfahibbmkcnoaaDoorWRepsOne
import Derived.Test.YtpfahibbmkcnoaaDoorWInv
import Derived.Test.YtpfahibbmkcnoaaDoorWInvWords
import Derived.Test.YtpfahibbmkcnoaaDoorWGuard
import Derived.Test.YtpfahibbmkcnoaaDoorWNEv
import Derived.Test.YtpfahibbmkcnoaaDoorWMore
namespace Go.Proofs.YtpfahibbmkcnoaaDoor.XE
open Go.RowKit Go.Proofs.YtpfahibbmkcnoaaDoorW.PrintWords Go.Proofs.YtpfahibbmkcnoaaDoorW.PrintLast Go.Proofs.YtpfahibbmkcnoaaDoorW.PrintMore
attribute [local go_sem] max2_int min2_int max_two min_two max_three min_three max_four min_four   -- for this text's walks alone
attribute [local go_sem] Lib.run_min_strs Go.Proofs.YtpfahibbmkcnoaaDoorXW.run_min2_strs Go.Proofs.YtpfahibbmkcnoaaDoorXW.run_int_string
set_option linter.unusedVariables false
set_option linter.unusedSimpArgs false



def errW : Option Int → Value
  | none => .nilIface
  | some c => .iface 0 (.int .i64 c)
theorem errW_none : errW none = .nilIface := rfl
theorem errW_some (c : Int) : errW (some c) = .iface 0 (.int .i64 c) := rfl

theorem info3 : (Tryd.prog.info? 3).map (fun i => (i.zero, i.size, i.bytes)) = some (some (.int .i64 0), 1, 8) := by kernel_rfl
theorem info5 : (Tryd.prog.info? 5).map (fun i => (i.zero, i.size, i.bytes)) = some (some (.int .u8 0), 1, 1) := by kernel_rfl
theorem info9 : (Tryd.prog.info? 9).map (fun i => (i.zero, i.size, i.bytes)) = some (some (.string ⟨#[]⟩), 1, 16) := by kernel_rfl
-- the values' own types

end Go.Proofs.YtpfahibbmkcnoaaDoor.XE
