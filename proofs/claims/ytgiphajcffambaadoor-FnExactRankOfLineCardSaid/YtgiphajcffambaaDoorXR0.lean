/- The Lean functions that the Go functions of this seat compute, each with the proof that the Go function computes it, for every input (laws: FnExactRankOfLine). Conditions: none beyond those that each theorem names. Written by a program of this session over the kit's printer. -/
import Derived.Test.YtgiphajcffambaaDoorProg
import Derived.Below
import Derived.Deep.Draws
import Derived.Deep.AppendLies
import Derived.Maps.AppendAt
import Derived.OwnWalk
import Derived.Laws.BytesArg
import Derived.Laws.MakeOwn
import Derived.Laws.OwnMore
import Derived.Deep.OwnRows
import Derived.Tactics
import Derived.Lib.ConvBytes
import Derived.Laws.Slices
import Derived.WalkKit
import Derived.KernelRfl
import Derived.RowKit3
import Derived.Deep.LoopGhost
import Derived.Deep.QuietTactic
import Derived.BigQuiet
import Derived.WideLaws
import Derived.Deep.DeepCutAuto
import Derived.Deep.CutBlock
import Derived.Deep.RegionHeld3
import Derived.Laws.Rows
import Derived.Lib.AppendStr
import Derived.ArgAppend
import Derived.Laws.IdiomCopy
import Derived.OrdersHeld
import Derived.Laws.BitsLemmas
import Derived.RowKit
import Derived.Lib.Hide
import Derived.Test.YtgiphajcffambaaDoorRanks
import Derived.Test.YtgiphajcffambaaDoorShelf
import Derived.Test.YtgiphajcffambaaDoorXW
import Derived.Lib.MinMaxS
import Derived.Test.YtgiphajcffambaaDoorWWords
import Derived.Test.YtgiphajcffambaaDoorWLast
import Derived.Test.YtgiphajcffambaaDoorWTab
import Derived.Test.YtgiphajcffambaaDoorWFour
import Derived.Test.YtgiphajcffambaaDoorWQPut
import Derived.Test.YtgiphajcffambaaDoorWApart
import Derived.Test.YtgiphajcffambaaDoorWArr
import Derived.Test.YtgiphajcffambaaDoorWZeros
import Derived.Test.YtgiphajcffambaaDoorWFoot
import Derived.Test.YtgiphajcffambaaDoorWKept
import Derived.Test.YtgiphajcffambaaDoorWShare
import Derived.Test.YtgiphajcffambaaDoorWN
import Derived.Test.YtgiphajcffambaaDoorWFootNe
import Derived.Test.YtgiphajcffambaaDoorWAt
import Derived.Test.YtgiphajcffambaaDoorWEqStruct
import Derived.Test.YtgiphajcffambaaDoorWRepsOne
import Derived.Test.YtgiphajcffambaaDoorWInv
import Derived.Test.YtgiphajcffambaaDoorWInvWords
import Derived.Test.YtgiphajcffambaaDoorWGuard
import Derived.Test.YtgiphajcffambaaDoorWNEv
import Derived.Test.YtgiphajcffambaaDoorWMore
namespace Go.Proofs.YtgiphajcffambaaDoor.XR
open Go.RowKit Go.Proofs.YtgiphajcffambaaDoorW.PrintWords Go.Proofs.YtgiphajcffambaaDoorW.PrintLast Go.Proofs.YtgiphajcffambaaDoorW.PrintMore
attribute [local go_sem] max2_int min2_int max_two min_two max_three min_three max_four min_four   -- for this text's walks alone
attribute [local go_sem] Lib.run_min_strs Go.Proofs.YtgiphajcffambaaDoorXW.run_min2_strs Go.Proofs.YtgiphajcffambaaDoorXW.run_int_string
set_option linter.unusedVariables false
set_option linter.unusedSimpArgs false



def errW : Option Int → Value
  | none => .nilIface
  | some c => .iface 0 (.int .i64 c)
theorem errW_none : errW none = .nilIface := rfl
theorem errW_some (c : Int) : errW (some c) = .iface 0 (.int .i64 c) := rfl

-- the values' own types

end Go.Proofs.YtgiphajcffambaaDoor.XR
