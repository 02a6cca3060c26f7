/- The Lean functions that the Go functions of this seat compute, each with the proof that the Go function computes it, for every input (laws: FnLinesRankedOfAll). Conditions: none beyond those that each theorem names. Written by a program of this session over the kit's printer. -/
import Derived.Test.YtgiphajcffambaaDoorXA12
import Derived.Test.YtgiphajcffambaaDoorXA13
import Derived.Test.YtgiphajcffambaaDoorXA14
import Derived.Test.YtgiphajcffambaaDoorXA15
import Derived.Test.YtgiphajcffambaaDoorXA16
import Derived.Laws.Cover1
import Derived.Test.YtgiphajcffambaaDoorXA0
import Derived.Test.YtgiphajcffambaaDoorXA3
import Derived.Test.YtgiphajcffambaaDoorXA4
import Derived.Test.YtgiphajcffambaaDoorXA5
import Derived.Test.YtgiphajcffambaaDoorXA6
import Derived.Test.YtgiphajcffambaaDoorXA7
import Derived.Test.YtgiphajcffambaaDoorXA8
import Derived.Test.YtgiphajcffambaaDoorXA9
namespace Go.Proofs.YtgiphajcffambaaDoor.XA
open Go.RowKit Go.Proofs.YtgiphajcffambaaDoorW.PrintWords Go.Proofs.YtgiphajcffambaaDoorW.PrintLast Go.Proofs.YtgiphajcffambaaDoorW.PrintMore
attribute [local go_sem] max2_int min2_int max_two min_two max_three min_three max_four min_four   -- for this text's walks alone
attribute [local go_sem] Lib.run_min_strs Go.Proofs.YtgiphajcffambaaDoorXW.run_min2_strs Go.Proofs.YtgiphajcffambaaDoorXW.run_int_string
set_option linter.unusedVariables false
set_option linter.unusedSimpArgs false

theorem laws_FnLinesRankedOfAll.calls (k : Nat) (a0 : ByteArray) (a1 : Int) (a2 : Int) (a3 : Int) (a4 : Int) (a5 : ByteArray) (A6 : Option Addr) (c6 : Nat) (l6 : List (S46)) (r : Bool) (w : World) (hr6 : Kd.C k46 w A6 l6.length l6) (hc6 : l6.length ≤ c6) (h : laws_FnLinesRankedOfAll.f k a0 a1 a2 a3 a4 a5 l6 = some r) :
    Calls Tryd.prog 7 #[.string a0, .int .i64 a1, .int .i64 a2, .int .i64 a3, .int .i64 a4, .string a5, .slice A6 l6.length c6] w fun e w' => e = .returned (.bool r) ∧ Below w.heap.size w w' := by
  exact laws_FnLinesRankedOfAll.parts.2 laws_FnLinesRankedOfAll.part1 laws_FnLinesRankedOfAll.part2 laws_FnLinesRankedOfAll.part3 laws_FnLinesRankedOfAll.part4 laws_FnLinesRankedOfAll.part5 k a0 a1 a2 a3 a4 a5 A6 c6 l6 r w hr6 hc6 h

end Go.Proofs.YtgiphajcffambaaDoor.XA
