/- The Lean functions that the Go functions of this seat compute, each with the proof that the Go function computes it, for every input (laws: FnExactOtherWord). Conditions: none beyond those that each theorem names. Written by a program of this session over the kit's printer. -/
import Derived.Test.YtoaajkpcefgofaaDoorProg
import Derived.Below
import Derived.Deep.Draws
import Derived.Deep.AppendLies
import Derived.Maps.AppendAt
import Derived.OwnWalk
import Derived.Laws.BytesArg
import Derived.Laws.MakeOwn
import Derived.Laws.OwnMore
import Derived.Deep.OwnRows
import Derived.Tactics
import Derived.Lib.ConvBytes
import Derived.Laws.Slices
import Derived.WalkKit
import Derived.KernelRfl
import Derived.RowKit3
import Derived.Deep.LoopGhost
import Derived.Deep.QuietTactic
import Derived.BigQuiet
import Derived.WideLaws
import Derived.Deep.DeepCutAuto
import Derived.Deep.CutBlock
import Derived.Deep.RegionHeld3
import Derived.Laws.Rows
import Derived.Lib.AppendStr
import Derived.ArgAppend
import Derived.Laws.IdiomCopy
import Derived.OrdersHeld
import Derived.Laws.BitsLemmas
import Derived.RowKit
import Derived.Test.YtoaajkpcefgofaaDoorShelf
import Derived.Test.YtoaajkpcefgofaaDoorXW
import Derived.Lib.MinMaxS
import Derived.Test.YtoaajkpcefgofaaDoorWWords
import Derived.Test.YtoaajkpcefgofaaDoorWLast
import Derived.Test.YtoaajkpcefgofaaDoorWTab
import Derived.Test.YtoaajkpcefgofaaDoorWFour
import Derived.Test.YtoaajkpcefgofaaDoorWQPut
import Derived.Test.YtoaajkpcefgofaaDoorWApart
import Derived.Test.YtoaajkpcefgofaaDoorWArr
import Derived.Test.YtoaajkpcefgofaaDoorWZeros
import Derived.Test.YtoaajkpcefgofaaDoorWFoot
import Derived.Test.YtoaajkpcefgofaaDoorWKept
import Derived.Test.YtoaajkpcefgofaaDoorWShare
import Derived.Test.YtoaajkpcefgofaaDoorWN
import Derived.Test.YtoaajkpcefgofaaDoorWFootNe
import Derived.Test.YtoaajkpcefgofaaDoorWAt
import Derived.Test.YtoaajkpcefgofaaDoorWEqStruct
import Derived.Test.YtoaajkpcefgofaaDoorWRepsOne
import Derived.Test.YtoaajkpcefgofaaDoorWInv
import Derived.Test.YtoaajkpcefgofaaDoorWInvWords
import Derived.Test.YtoaajkpcefgofaaDoorWGuard
import Derived.Test.YtoaajkpcefgofaaDoorWNEv
import Derived.Test.YtoaajkpcefgofaaDoorWMore
namespace Go.Proofs.YtoaajkpcefgofaaDoor.XOW
open Go.RowKit Go.Proofs.YtoaajkpcefgofaaDoorW.PrintWords Go.Proofs.YtoaajkpcefgofaaDoorW.PrintLast Go.Proofs.YtoaajkpcefgofaaDoorW.PrintMore
attribute [local go_sem] max2_int min2_int max_two min_two max_three min_three max_four min_four   -- for this text's walks alone
attribute [local go_sem] Lib.run_min_strs Go.Proofs.YtoaajkpcefgofaaDoorXW.run_min2_strs Go.Proofs.YtoaajkpcefgofaaDoorXW.run_int_string
set_option linter.unusedVariables false
set_option linter.unusedSimpArgs false



def errW : Option Int → Value
  | none => .nilIface
  | some c => .iface 0 (.int .i64 c)
theorem errW_none : errW none = .nilIface := rfl
theorem errW_some (c : Int) : errW (some c) = .iface 0 (.int .i64 c) := rfl

-- the values' own types

end Go.Proofs.YtoaajkpcefgofaaDoor.XOW
