/- The Lean functions that the Go functions of this seat compute, each with the proof that the Go function computes it, for every input (laws: FnExactRuleText, FnExactFirstLine). Conditions: none beyond those that each theorem names. Written by a program of this session over the kit's printer. -/
import Derived.Test.YticlpfeeokghnaaProg
import Derived.Below
import Derived.Deep.Draws
import Derived.Deep.AppendLies
import Derived.Maps.AppendAt
import Derived.OwnWalk
import Derived.Laws.BytesArg
import Derived.Laws.MakeOwn
import Derived.Laws.OwnMore
import Derived.Deep.OwnRows
import Derived.Tactics
import Derived.Lib.ConvBytes
import Derived.Laws.Slices
import Derived.WalkKit
import Derived.KernelRfl
import Derived.RowKit3
import Derived.Deep.LoopGhost
import Derived.Deep.QuietTactic
import Derived.BigQuiet
import Derived.WideLaws
import Derived.Deep.DeepCutAuto
import Derived.Deep.CutBlock
import Derived.Deep.RegionHeld3
import Derived.Laws.Rows
import Derived.Lib.AppendStr
import Derived.ArgAppend
import Derived.Laws.IdiomCopy
import Derived.OrdersHeld
import Derived.Laws.BitsLemmas
import Derived.RowKit
import Derived.Test.YticlpfeeokghnaaShelf
import Derived.Test.YticlpfeeokghnaaXW
import Derived.Lib.MinMaxS
import Derived.Test.YticlpfeeokghnaaWWords
import Derived.Test.YticlpfeeokghnaaWLast
import Derived.Test.YticlpfeeokghnaaWTab
import Derived.Test.YticlpfeeokghnaaWFour
import Derived.Test.YticlpfeeokghnaaWQPut
import Derived.Test.YticlpfeeokghnaaWApart
import Derived.Test.YticlpfeeokghnaaWArr
import Derived.Test.YticlpfeeokghnaaWZeros
import Derived.Test.YticlpfeeokghnaaWFoot
import Derived.Test.YticlpfeeokghnaaWKept
import Derived.Test.YticlpfeeokghnaaWShare
import Derived.Test.YticlpfeeokghnaaWN
import Derived.Test.YticlpfeeokghnaaWFootNe
import Derived.Test.YticlpfeeokghnaaWAt
import Derived.Test.YticlpfeeokghnaaWEqStruct
import Derived.Test.YticlpfeeokghnaaWRepsOne
import Derived.Test.YticlpfeeokghnaaWInv
import Derived.Test.YticlpfeeokghnaaWInvWords
import Derived.Test.YticlpfeeokghnaaWGuard
import Derived.Test.YticlpfeeokghnaaWNEv
import Derived.Test.YticlpfeeokghnaaWMore
namespace Go.Proofs.Yticlpfeeokghnaa.XA
open Go.RowKit Go.Proofs.YticlpfeeokghnaaW.PrintWords Go.Proofs.YticlpfeeokghnaaW.PrintLast Go.Proofs.YticlpfeeokghnaaW.PrintMore
attribute [local go_sem] max2_int min2_int max_two min_two max_three min_three max_four min_four   -- for this text's walks alone
attribute [local go_sem] Lib.run_min_strs Go.Proofs.YticlpfeeokghnaaXW.run_min2_strs Go.Proofs.YticlpfeeokghnaaXW.run_int_string
set_option linter.unusedVariables false
set_option linter.unusedSimpArgs false



def errW : Option Int → Value
  | none => .nilIface
  | some c => .iface 0 (.int .i64 c)
theorem errW_none : errW none = .nilIface := rfl
theorem errW_some (c : Int) : errW (some c) = .iface 0 (.int .i64 c) := rfl

theorem info3 : (Try.prog.info? 3).map (fun i => (i.zero, i.size, i.bytes)) = some (some (.int .i64 0), 1, 8) := by kernel_rfl
theorem info4 : (Try.prog.info? 4).map (fun i => (i.zero, i.size, i.bytes)) = some (some (.bool false), 1, 1) := by kernel_rfl
-- the values' own types

end Go.Proofs.Yticlpfeeokghnaa.XA
