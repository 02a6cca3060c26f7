/-
  No cell of these rows narrows 'for every input' (looked for: loops, veiled, ifaces, maps, wideKeys, modest, calm, conditions, laid).
  DERIVED. THE GIVEN ROWS OF THIS SEAT. 3 by the template 'for every input the law returns true; each argument reads behind the call as it read before'; 0 by the template 'total and deterministic' (their statements: YtgiphajcffambaaTotals.lean).
  GIVEN WITH THE SEED: the statements are not yours to turn. If you find one false, say at which input.
  Laid BY PROGRAM, IN A SANDBOX (cutbox-rows.mjs): the forced cells as the released guide's own fill.sh prints them over the translation a3250ed71e3148da… (all of the seat's roots in one cut). By AI agents, Wed Nov 11 2026. No macro, syntax, notation, axiom, sorry.
-/
import Derived.Test.YtgiphajcffambaaChecked
import GoSem.Claim
import GoSem.ClaimJoined
import GoSem.ClaimMapViews
import Derived.JoinedTies
import Derived.KernelRfl
namespace Go.Proofs.Ytgiphajcffambaa
/- THE CELL 'sum', in the pinned program and in every row, IS THE sha256 OF THE DUMP (.gsa) THAT YtgiphajcffambaaProg.lean LOADS. Nothing in Lean hashes anything: it is a label: what it is worth is what the hold of that sum in a sandbox is worth. -/
noncomputable def Try.pinned : Pinned := { name := "ytgiphajcffambaa", sum := "a3250ed71e3148dae50848c051c87c4aa76fecb12cb657bf9b20769ba6a400a9", checked := Try.checked }
namespace Rows
def none {H : Type} : Left H := { results := [], args := [] }

/-- 'laws.FnExactIsExchange': WHATEVER THE INPUT: true; the input reads as it did. -/
def fnExactIsExchangeSpec : ChangeSpec := { name := "fnExactIsExchange", fn := fun _ => fun
  | [d1, d2, d3, d4] => { results := [.lit (.bool true)], args := [d1, d2, d3, d4] }
  | _ => none }
def fnExactIsExchangeRow : OpenClaim := { program := "ytgiphajcffambaa", sum := "a3250ed71e3148dae50848c051c87c4aa76fecb12cb657bf9b20769ba6a400a9", func := "loop.example/g01271/laws.FnExactIsExchange", spec := "fnExactIsExchange", inPlace := ["internal/abi.NoEscape", "internal/bytealg.MakeNoZero", "internal/bytealg.CountString", "internal/bytealg.IndexByteString", "internal/bytealg.IndexString"], unfollowed := true, recurses := true, named := ["internal/bytealg.MaxLen"], apart := false }
def FnExactIsExchangeSaid : Prop := fnExactIsExchangeRow.holds Try.pinned (OpenSpec.ofChange fnExactIsExchangeSpec)

/-- ITS FALSE NEIGHBOUR: 'it returns false'. Refute it at one input. -/
def fnExactIsExchangeWrong : ChangeSpec := { name := "fnExactIsExchange", fn := fun _ => fun
  | [d1, d2, d3, d4] => { results := [.lit (.bool false)], args := [d1, d2, d3, d4] }
  | _ => none }
def FnExactIsExchangeWrongFalsely : Prop := fnExactIsExchangeRow.holds Try.pinned (OpenSpec.ofChange fnExactIsExchangeWrong)

/-- 'laws.FnExactIsOwnBack': WHATEVER THE INPUT: true; the input reads as it did. -/
def fnExactIsOwnBackSpec : ChangeSpec := { name := "fnExactIsOwnBack", fn := fun _ => fun
  | [d1, d2, d3, d4] => { results := [.lit (.bool true)], args := [d1, d2, d3, d4] }
  | _ => none }
def fnExactIsOwnBackRow : OpenClaim := { program := "ytgiphajcffambaa", sum := "a3250ed71e3148dae50848c051c87c4aa76fecb12cb657bf9b20769ba6a400a9", func := "loop.example/g01271/laws.FnExactIsOwnBack", spec := "fnExactIsOwnBack", inPlace := ["internal/abi.NoEscape", "internal/bytealg.MakeNoZero", "internal/bytealg.CountString", "internal/bytealg.IndexByteString", "internal/bytealg.IndexString"], unfollowed := true, recurses := true, named := ["internal/bytealg.MaxLen"], apart := false }
def FnExactIsOwnBackSaid : Prop := fnExactIsOwnBackRow.holds Try.pinned (OpenSpec.ofChange fnExactIsOwnBackSpec)

/-- ITS FALSE NEIGHBOUR: 'it returns false'. Refute it at one input. -/
def fnExactIsOwnBackWrong : ChangeSpec := { name := "fnExactIsOwnBack", fn := fun _ => fun
  | [d1, d2, d3, d4] => { results := [.lit (.bool false)], args := [d1, d2, d3, d4] }
  | _ => none }
def FnExactIsOwnBackWrongFalsely : Prop := fnExactIsOwnBackRow.holds Try.pinned (OpenSpec.ofChange fnExactIsOwnBackWrong)

/-- 'laws.FnExactBackExchange': WHATEVER THE INPUT: true; the input reads as it did. -/
def fnExactBackExchangeSpec : ChangeSpec := { name := "fnExactBackExchange", fn := fun _ => fun
  | [d1, d2, d3, d4] => { results := [.lit (.bool true)], args := [d1, d2, d3, d4] }
  | _ => none }
def fnExactBackExchangeRow : OpenClaim := { program := "ytgiphajcffambaa", sum := "a3250ed71e3148dae50848c051c87c4aa76fecb12cb657bf9b20769ba6a400a9", func := "loop.example/g01271/laws.FnExactBackExchange", spec := "fnExactBackExchange", inPlace := ["internal/abi.NoEscape", "internal/bytealg.MakeNoZero", "internal/bytealg.CountString", "internal/bytealg.IndexByteString", "internal/bytealg.IndexString"], unfollowed := true, recurses := true, named := ["internal/bytealg.MaxLen"], apart := false }
def FnExactBackExchangeSaid : Prop := fnExactBackExchangeRow.holds Try.pinned (OpenSpec.ofChange fnExactBackExchangeSpec)

/-- ITS FALSE NEIGHBOUR: 'it returns false'. Refute it at one input. -/
def fnExactBackExchangeWrong : ChangeSpec := { name := "fnExactBackExchange", fn := fun _ => fun
  | [d1, d2, d3, d4] => { results := [.lit (.bool false)], args := [d1, d2, d3, d4] }
  | _ => none }
def FnExactBackExchangeWrongFalsely : Prop := fnExactBackExchangeRow.holds Try.pinned (OpenSpec.ofChange fnExactBackExchangeWrong)

/- THE SECOND FORM. 'bulk': how many values and letters a reading holds, each counted each time it is reached (what is shared counts as often as it is met; a slice's spare places count too). A statement '..UptoSaid' is the law's where the arguments, and the package variables that the reading takes, are together of bulk at most 1048576: NARROWER than '..Said'. Prove '..Said' where nothing that the law and all that it calls make is longer than what came in: it says more and counts as full. Else prove '..UptoSaid'. A law counts once. -/
mutual
def uptoBulk {H : Type} : DataW H → Nat
  | .lit (.string bytes) => bytes.length + 1
  | .lit _ => 1
  | .nil => 1
  | .ptr d => uptoBulk d + 1
  | .slice elems spare => uptoBulkAll elems + uptoBulkAll spare + 1
  | .agg parts => uptoBulkAll parts + 1
  | .iface _ d => uptoBulk d + 1
  | .map entries => uptoBulkEntries entries + 1
  | .held _ => 1
def uptoBulkAll {H : Type} : List (DataW H) → Nat
  | [] => 0
  | d :: r => uptoBulk d + uptoBulkAll r
def uptoBulkEntries {H : Type} : List (Lit × DataW H) → Nat
  | [] => 0
  | x :: r => uptoBulkEntry x + uptoBulkEntries r
def uptoBulkEntry {H : Type} : Lit × DataW H → Nat
  | (.string bytes, d) => bytes.length + uptoBulk d + 1
  | (_, d) => uptoBulk d + 1
 end
def uptoSmall : (H : Type) → List (DataW H) → Bool := fun _ ds => decide (uptoBulkAll ds ≤ 1048576)
def OpenSpec.upto (s : _root_.Go.ChangeSpec) : _root_.Go.OpenSpec := { _root_.Go.OpenSpec.ofChange s with cond := some uptoSmall }

/-- 'laws.FnExactIsExchange', WHERE WHAT IT READS IS OF BULK AT MOST 1048576: true; the input reads as it did. -/
def fnExactIsExchangeUptoRow : OpenClaim := { program := "ytgiphajcffambaa", sum := "a3250ed71e3148dae50848c051c87c4aa76fecb12cb657bf9b20769ba6a400a9", func := "loop.example/g01271/laws.FnExactIsExchange", spec := "fnExactIsExchange", inPlace := ["internal/abi.NoEscape", "internal/bytealg.MakeNoZero", "internal/bytealg.CountString", "internal/bytealg.IndexByteString", "internal/bytealg.IndexString"], unfollowed := true, recurses := true, named := ["internal/bytealg.MaxLen"], apart := false, narrowed := true }
def FnExactIsExchangeUptoSaid : Prop := fnExactIsExchangeUptoRow.holds Try.pinned (OpenSpec.upto fnExactIsExchangeSpec)

/-- 'laws.FnExactIsOwnBack', WHERE WHAT IT READS IS OF BULK AT MOST 1048576: true; the input reads as it did. -/
def fnExactIsOwnBackUptoRow : OpenClaim := { program := "ytgiphajcffambaa", sum := "a3250ed71e3148dae50848c051c87c4aa76fecb12cb657bf9b20769ba6a400a9", func := "loop.example/g01271/laws.FnExactIsOwnBack", spec := "fnExactIsOwnBack", inPlace := ["internal/abi.NoEscape", "internal/bytealg.MakeNoZero", "internal/bytealg.CountString", "internal/bytealg.IndexByteString", "internal/bytealg.IndexString"], unfollowed := true, recurses := true, named := ["internal/bytealg.MaxLen"], apart := false, narrowed := true }
def FnExactIsOwnBackUptoSaid : Prop := fnExactIsOwnBackUptoRow.holds Try.pinned (OpenSpec.upto fnExactIsOwnBackSpec)

/-- 'laws.FnExactBackExchange', WHERE WHAT IT READS IS OF BULK AT MOST 1048576: true; the input reads as it did. -/
def fnExactBackExchangeUptoRow : OpenClaim := { program := "ytgiphajcffambaa", sum := "a3250ed71e3148dae50848c051c87c4aa76fecb12cb657bf9b20769ba6a400a9", func := "loop.example/g01271/laws.FnExactBackExchange", spec := "fnExactBackExchange", inPlace := ["internal/abi.NoEscape", "internal/bytealg.MakeNoZero", "internal/bytealg.CountString", "internal/bytealg.IndexByteString", "internal/bytealg.IndexString"], unfollowed := true, recurses := true, named := ["internal/bytealg.MaxLen"], apart := false, narrowed := true }
def FnExactBackExchangeUptoSaid : Prop := fnExactBackExchangeUptoRow.holds Try.pinned (OpenSpec.upto fnExactBackExchangeSpec)

end Rows
end Go.Proofs.Ytgiphajcffambaa
