/- The Lean functions that the Go functions of this seat compute, each with the proof that the Go function computes it, for every input (laws: FnExactLineOfRank). Conditions: none beyond those that each theorem names. Written by a program of this session over the kit's printer. -/
import Derived.Test.YtpelhinjoambfaaProg
import Derived.Below
import Derived.Deep.Draws
import Derived.Deep.AppendLies
import Derived.Maps.AppendAt
import Derived.OwnWalk
import Derived.Laws.BytesArg
import Derived.Laws.MakeOwn
import Derived.Laws.OwnMore
import Derived.Deep.OwnRows
import Derived.Tactics
import Derived.Lib.ConvBytes
import Derived.Laws.Slices
import Derived.WalkKit
import Derived.KernelRfl
import Derived.RowKit3
import Derived.Deep.LoopGhost
import Derived.Deep.QuietTactic
import Derived.BigQuiet
import Derived.WideLaws
import Derived.Deep.DeepCutAuto
import Derived.Deep.CutBlock
import Derived.Deep.RegionHeld3
import Derived.Laws.Rows
import Derived.Lib.AppendStr
import Derived.ArgAppend
import Derived.Laws.IdiomCopy
import Derived.OrdersHeld
import Derived.Laws.BitsLemmas
import Derived.RowKit
import Derived.Deep.DeepMust
import Derived.Lib.Hide
import Derived.Test.YtpelhinjoambfaaRanks
import Derived.Test.YtpelhinjoambfaaXW
import Derived.Lib.MinMaxS
import Derived.Test.YtpelhinjoambfaaWWords
import Derived.Test.YtpelhinjoambfaaWLast
import Derived.Test.YtpelhinjoambfaaWTab
import Derived.Test.YtpelhinjoambfaaWFour
import Derived.Test.YtpelhinjoambfaaWQPut
import Derived.Test.YtpelhinjoambfaaWApart
import Derived.Test.YtpelhinjoambfaaWArr
import Derived.Test.YtpelhinjoambfaaWZeros
import Derived.Test.YtpelhinjoambfaaWFoot
import Derived.Test.YtpelhinjoambfaaWKept
import Derived.Test.YtpelhinjoambfaaWShare
import Derived.Test.YtpelhinjoambfaaWN
import Derived.Test.YtpelhinjoambfaaWFootNe
import Derived.Test.YtpelhinjoambfaaWAt
import Derived.Test.YtpelhinjoambfaaWEqStruct
import Derived.Test.YtpelhinjoambfaaWRepsOne
import Derived.Test.YtpelhinjoambfaaWInv
import Derived.Test.YtpelhinjoambfaaWInvWords
import Derived.Test.YtpelhinjoambfaaWGuard
import Derived.Test.YtpelhinjoambfaaWNEv
import Derived.Test.YtpelhinjoambfaaWMore
namespace Go.Proofs.Ytpelhinjoambfaa.XR
open Go.RowKit Go.Proofs.YtpelhinjoambfaaW.PrintWords Go.Proofs.YtpelhinjoambfaaW.PrintLast Go.Proofs.YtpelhinjoambfaaW.PrintMore
attribute [local go_sem] max2_int min2_int max_two min_two max_three min_three max_four min_four   -- for this text's walks alone
attribute [local go_sem] Lib.run_min_strs Go.Proofs.YtpelhinjoambfaaXW.run_min2_strs Go.Proofs.YtpelhinjoambfaaXW.run_int_string
set_option linter.unusedVariables false
set_option linter.unusedSimpArgs false



def errW : Option Int → Value
  | none => .nilIface
  | some c => .iface 0 (.int .i64 c)
theorem errW_none : errW none = .nilIface := rfl
theorem errW_some (c : Int) : errW (some c) = .iface 0 (.int .i64 c) := rfl

theorem info3 : (Try.prog.info? 3).map (fun i => (i.zero, i.size, i.bytes)) = some (some (.int .i64 0), 1, 8) := by kernel_rfl
-- the values' own types

end Go.Proofs.Ytpelhinjoambfaa.XR
