/-
  NARROWER THAN 'FOR EVERY INPUT', by the rows' own cells (each row's printed sentence says how): FnExactIsBoard: laid · FnExactRowOfBoard: laid · FnExactSizeOfBoard: laid · FnExactWayOnBoard: laid · FnExactLinesBefore: laid.
  DERIVED. THE GIVEN ROWS OF THIS SEAT. 5 by the template 'for every input the law returns true; each argument reads behind the call as it read before'; 0 by the template 'total and deterministic' (their statements: YtpfahibbmkcnoaaDoorTotals.lean).
  GIVEN WITH THE SEED: the statements are not yours to turn. If you find one false, say at which input.
  Laid BY PROGRAM, IN A SANDBOX (cutbox-rows.mjs): the forced cells as the released guide's own fill.sh prints them over the translation 19ea42762a112cc9… (all of the seat's roots in one cut). By AI agents, Wed Nov 11 2026. No macro, syntax, notation, axiom, sorry.
-/
import Derived.Test.YtpfahibbmkcnoaaDoorChecked
import GoSem.PinnedTables
import GoSem.Claim
import GoSem.ClaimJoined
import GoSem.ClaimMapViews
import Derived.JoinedTies
import Derived.KernelRfl
namespace Go.Proofs.YtpfahibbmkcnoaaDoor
/- THE CELL 'sum', in the pinned program and in every row, IS THE sha256 OF THE DUMP (.gsa) THAT YtpfahibbmkcnoaaDoorProg.lean LOADS. Nothing in Lean hashes anything: it is a label: what it is worth is what the hold of that sum in a sandbox is worth. -/
noncomputable def Tryd.pinned : Pinned := { name := "ytpfahibbmkcnoaadoor", sum := "19ea42762a112cc9d4b3c231c94cc4f5c8df76bd67088e68462186a4764ed671", checked := Tryd.checked }
namespace Rows
def none {H : Type} : Left H := { results := [], args := [] }

/- WHAT THE LISTED PACKAGE-LEVEL VARIABLES READ AS WHEN THE CALL BEGINS. Each datum BY PROGRAM (the guide's laid-datum.mjs) off the statement by which the dump's own 'gosem.cut.vars' lays the variable. In a bare row this is a premise. The card (YtpfahibbmkcnoaaDoorCards.lean) ties it to the program's text. -/
def laid_unicode_utf8_acceptRanges {H : Type} : DataW H := .agg [.agg [.lit (.int .u8 128), .lit (.int .u8 191)], .agg [.lit (.int .u8 160), .lit (.int .u8 191)], .agg [.lit (.int .u8 128), .lit (.int .u8 159)], .agg [.lit (.int .u8 144), .lit (.int .u8 191)], .agg [.lit (.int .u8 128), .lit (.int .u8 143)], .agg [.lit (.int .u8 0), .lit (.int .u8 0)], .agg [.lit (.int .u8 0), .lit (.int .u8 0)], .agg [.lit (.int .u8 0), .lit (.int .u8 0)], .agg [.lit (.int .u8 0), .lit (.int .u8 0)], .agg [.lit (.int .u8 0), .lit (.int .u8 0)], .agg [.lit (.int .u8 0), .lit (.int .u8 0)], .agg [.lit (.int .u8 0), .lit (.int .u8 0)], .agg [.lit (.int .u8 0), .lit (.int .u8 0)], .agg [.lit (.int .u8 0), .lit (.int .u8 0)], .agg [.lit (.int .u8 0), .lit (.int .u8 0)], .agg [.lit (.int .u8 0), .lit (.int .u8 0)]]
/-- One of Go's own tables, pinned by name: the form's constant. -/
def laid_unicode_utf8_first : DataW Unit := Go.Pinned.utf8First

/-- 'laws.FnExactIsBoard': WHATEVER THE INPUT: true; the input reads as it did. -/
def fnExactIsBoardSpec : ChangeSpec := { name := "fnExactIsBoard", fn := fun _ => fun
  | [d] => { results := [.lit (.bool true)], args := [d] }
  | _ => none }
def fnExactIsBoardRow : OpenClaim := { program := "ytpfahibbmkcnoaadoor", sum := "19ea42762a112cc9d4b3c231c94cc4f5c8df76bd67088e68462186a4764ed671", func := "loop.example/g01271/laws.FnExactIsBoard", spec := "fnExactIsBoard", inPlace := ["internal/bytealg.CountString", "internal/bytealg.IndexByteString", "internal/bytealg.IndexString"], unfollowed := true, recurses := true, named := ["unicode/utf8.first", "unicode/utf8.acceptRanges", "internal/bytealg.MaxLen"], apart := false, laid := [("unicode/utf8.acceptRanges", laid_unicode_utf8_acceptRanges), ("unicode/utf8.first", laid_unicode_utf8_first)] }
def FnExactIsBoardSaid : Prop := fnExactIsBoardRow.holds Tryd.pinned (OpenSpec.ofChange fnExactIsBoardSpec)

/-- ITS FALSE NEIGHBOUR: 'it returns false'. Refute it at one input. -/
def fnExactIsBoardWrong : ChangeSpec := { name := "fnExactIsBoard", fn := fun _ => fun
  | [d] => { results := [.lit (.bool false)], args := [d] }
  | _ => none }
def FnExactIsBoardWrongFalsely : Prop := fnExactIsBoardRow.holds Tryd.pinned (OpenSpec.ofChange fnExactIsBoardWrong)

/-- 'laws.FnExactRowOfBoard': WHATEVER THE INPUT: true; the input reads as it did. -/
def fnExactRowOfBoardSpec : ChangeSpec := { name := "fnExactRowOfBoard", fn := fun _ => fun
  | [d1, d2] => { results := [.lit (.bool true)], args := [d1, d2] }
  | _ => none }
def fnExactRowOfBoardRow : OpenClaim := { program := "ytpfahibbmkcnoaadoor", sum := "19ea42762a112cc9d4b3c231c94cc4f5c8df76bd67088e68462186a4764ed671", func := "loop.example/g01271/laws.FnExactRowOfBoard", spec := "fnExactRowOfBoard", inPlace := ["internal/bytealg.CountString", "internal/bytealg.IndexByteString", "internal/bytealg.IndexString", "internal/abi.NoEscape", "internal/bytealg.MakeNoZero"], unfollowed := true, recurses := true, named := ["unicode/utf8.first", "unicode/utf8.acceptRanges", "internal/bytealg.MaxLen"], apart := false, laid := [("unicode/utf8.acceptRanges", laid_unicode_utf8_acceptRanges), ("unicode/utf8.first", laid_unicode_utf8_first)] }
def FnExactRowOfBoardSaid : Prop := fnExactRowOfBoardRow.holds Tryd.pinned (OpenSpec.ofChange fnExactRowOfBoardSpec)

/-- ITS FALSE NEIGHBOUR: 'it returns false'. Refute it at one input. -/
def fnExactRowOfBoardWrong : ChangeSpec := { name := "fnExactRowOfBoard", fn := fun _ => fun
  | [d1, d2] => { results := [.lit (.bool false)], args := [d1, d2] }
  | _ => none }
def FnExactRowOfBoardWrongFalsely : Prop := fnExactRowOfBoardRow.holds Tryd.pinned (OpenSpec.ofChange fnExactRowOfBoardWrong)

/-- 'laws.FnExactSizeOfBoard': WHATEVER THE INPUT: true; the input reads as it did. -/
def fnExactSizeOfBoardSpec : ChangeSpec := { name := "fnExactSizeOfBoard", fn := fun _ => fun
  | [d] => { results := [.lit (.bool true)], args := [d] }
  | _ => none }
def fnExactSizeOfBoardRow : OpenClaim := { program := "ytpfahibbmkcnoaadoor", sum := "19ea42762a112cc9d4b3c231c94cc4f5c8df76bd67088e68462186a4764ed671", func := "loop.example/g01271/laws.FnExactSizeOfBoard", spec := "fnExactSizeOfBoard", inPlace := ["internal/bytealg.CountString", "internal/bytealg.IndexByteString", "internal/bytealg.IndexString", "internal/abi.NoEscape", "internal/bytealg.MakeNoZero"], unfollowed := true, recurses := true, named := ["unicode/utf8.first", "unicode/utf8.acceptRanges", "internal/bytealg.MaxLen"], apart := false, laid := [("unicode/utf8.acceptRanges", laid_unicode_utf8_acceptRanges), ("unicode/utf8.first", laid_unicode_utf8_first)] }
def FnExactSizeOfBoardSaid : Prop := fnExactSizeOfBoardRow.holds Tryd.pinned (OpenSpec.ofChange fnExactSizeOfBoardSpec)

/-- ITS FALSE NEIGHBOUR: 'it returns false'. Refute it at one input. -/
def fnExactSizeOfBoardWrong : ChangeSpec := { name := "fnExactSizeOfBoard", fn := fun _ => fun
  | [d] => { results := [.lit (.bool false)], args := [d] }
  | _ => none }
def FnExactSizeOfBoardWrongFalsely : Prop := fnExactSizeOfBoardRow.holds Tryd.pinned (OpenSpec.ofChange fnExactSizeOfBoardWrong)

/-- 'laws.FnExactWayOnBoard': WHATEVER THE INPUT: true; the input reads as it did. -/
def fnExactWayOnBoardSpec : ChangeSpec := { name := "fnExactWayOnBoard", fn := fun _ => fun
  | [d] => { results := [.lit (.bool true)], args := [d] }
  | _ => none }
def fnExactWayOnBoardRow : OpenClaim := { program := "ytpfahibbmkcnoaadoor", sum := "19ea42762a112cc9d4b3c231c94cc4f5c8df76bd67088e68462186a4764ed671", func := "loop.example/g01271/laws.FnExactWayOnBoard", spec := "fnExactWayOnBoard", inPlace := ["internal/bytealg.CountString", "internal/bytealg.IndexByteString", "internal/bytealg.IndexString", "internal/abi.NoEscape", "internal/bytealg.MakeNoZero"], unfollowed := true, recurses := true, named := ["unicode/utf8.first", "unicode/utf8.acceptRanges", "internal/bytealg.MaxLen"], apart := false, laid := [("unicode/utf8.acceptRanges", laid_unicode_utf8_acceptRanges), ("unicode/utf8.first", laid_unicode_utf8_first)] }
def FnExactWayOnBoardSaid : Prop := fnExactWayOnBoardRow.holds Tryd.pinned (OpenSpec.ofChange fnExactWayOnBoardSpec)

/-- ITS FALSE NEIGHBOUR: 'it returns false'. Refute it at one input. -/
def fnExactWayOnBoardWrong : ChangeSpec := { name := "fnExactWayOnBoard", fn := fun _ => fun
  | [d] => { results := [.lit (.bool false)], args := [d] }
  | _ => none }
def FnExactWayOnBoardWrongFalsely : Prop := fnExactWayOnBoardRow.holds Tryd.pinned (OpenSpec.ofChange fnExactWayOnBoardWrong)

/-- 'laws.FnExactLinesBefore': WHATEVER THE INPUT: true; the input reads as it did. -/
def fnExactLinesBeforeSpec : ChangeSpec := { name := "fnExactLinesBefore", fn := fun _ => fun
  | [d] => { results := [.lit (.bool true)], args := [d] }
  | _ => none }
def fnExactLinesBeforeRow : OpenClaim := { program := "ytpfahibbmkcnoaadoor", sum := "19ea42762a112cc9d4b3c231c94cc4f5c8df76bd67088e68462186a4764ed671", func := "loop.example/g01271/laws.FnExactLinesBefore", spec := "fnExactLinesBefore", inPlace := ["internal/bytealg.IndexByteString", "internal/bytealg.IndexString"], recurses := true, named := ["unicode/utf8.first", "unicode/utf8.acceptRanges", "internal/bytealg.MaxLen"], apart := false, laid := [("unicode/utf8.acceptRanges", laid_unicode_utf8_acceptRanges), ("unicode/utf8.first", laid_unicode_utf8_first)] }
def FnExactLinesBeforeSaid : Prop := fnExactLinesBeforeRow.holds Tryd.pinned (OpenSpec.ofChange fnExactLinesBeforeSpec)

/-- ITS FALSE NEIGHBOUR: 'it returns false'. Refute it at one input. -/
def fnExactLinesBeforeWrong : ChangeSpec := { name := "fnExactLinesBefore", fn := fun _ => fun
  | [d] => { results := [.lit (.bool false)], args := [d] }
  | _ => none }
def FnExactLinesBeforeWrongFalsely : Prop := fnExactLinesBeforeRow.holds Tryd.pinned (OpenSpec.ofChange fnExactLinesBeforeWrong)

/- THE SECOND FORM. 'bulk': how many values and letters a reading holds, each counted each time it is reached (what is shared counts as often as it is met; a slice's spare places count too). A statement '..UptoSaid' is the law's where the arguments, and the package variables that the reading takes, are together of bulk at most 1048576: NARROWER than '..Said'. Prove '..Said' where nothing that the law and all that it calls make is longer than what came in: it says more and counts as full. Else prove '..UptoSaid'. A law counts once. -/
mutual
def uptoBulk {H : Type} : DataW H → Nat
  | .lit (.string bytes) => bytes.length + 1
  | .lit _ => 1
  | .nil => 1
  | .ptr d => uptoBulk d + 1
  | .slice elems spare => uptoBulkAll elems + uptoBulkAll spare + 1
  | .agg parts => uptoBulkAll parts + 1
  | .iface _ d => uptoBulk d + 1
  | .map entries => uptoBulkEntries entries + 1
  | .held _ => 1
def uptoBulkAll {H : Type} : List (DataW H) → Nat
  | [] => 0
  | d :: r => uptoBulk d + uptoBulkAll r
def uptoBulkEntries {H : Type} : List (Lit × DataW H) → Nat
  | [] => 0
  | x :: r => uptoBulkEntry x + uptoBulkEntries r
def uptoBulkEntry {H : Type} : Lit × DataW H → Nat
  | (.string bytes, d) => bytes.length + uptoBulk d + 1
  | (_, d) => uptoBulk d + 1
 end
def uptoSmall : (H : Type) → List (DataW H) → Bool := fun _ ds => decide (uptoBulkAll ds ≤ 1048576)
def OpenSpec.upto (s : _root_.Go.ChangeSpec) : _root_.Go.OpenSpec := { _root_.Go.OpenSpec.ofChange s with cond := some uptoSmall }

/-- 'laws.FnExactIsBoard', WHERE WHAT IT READS IS OF BULK AT MOST 1048576: true; the input reads as it did. -/
def fnExactIsBoardUptoRow : OpenClaim := { program := "ytpfahibbmkcnoaadoor", sum := "19ea42762a112cc9d4b3c231c94cc4f5c8df76bd67088e68462186a4764ed671", func := "loop.example/g01271/laws.FnExactIsBoard", spec := "fnExactIsBoard", inPlace := ["internal/bytealg.CountString", "internal/bytealg.IndexByteString", "internal/bytealg.IndexString"], unfollowed := true, recurses := true, named := ["unicode/utf8.first", "unicode/utf8.acceptRanges", "internal/bytealg.MaxLen"], apart := false, laid := [("unicode/utf8.acceptRanges", laid_unicode_utf8_acceptRanges), ("unicode/utf8.first", laid_unicode_utf8_first)], narrowed := true }
def FnExactIsBoardUptoSaid : Prop := fnExactIsBoardUptoRow.holds Tryd.pinned (OpenSpec.upto fnExactIsBoardSpec)

/-- 'laws.FnExactRowOfBoard', WHERE WHAT IT READS IS OF BULK AT MOST 1048576: true; the input reads as it did. -/
def fnExactRowOfBoardUptoRow : OpenClaim := { program := "ytpfahibbmkcnoaadoor", sum := "19ea42762a112cc9d4b3c231c94cc4f5c8df76bd67088e68462186a4764ed671", func := "loop.example/g01271/laws.FnExactRowOfBoard", spec := "fnExactRowOfBoard", inPlace := ["internal/bytealg.CountString", "internal/bytealg.IndexByteString", "internal/bytealg.IndexString", "internal/abi.NoEscape", "internal/bytealg.MakeNoZero"], unfollowed := true, recurses := true, named := ["unicode/utf8.first", "unicode/utf8.acceptRanges", "internal/bytealg.MaxLen"], apart := false, laid := [("unicode/utf8.acceptRanges", laid_unicode_utf8_acceptRanges), ("unicode/utf8.first", laid_unicode_utf8_first)], narrowed := true }
def FnExactRowOfBoardUptoSaid : Prop := fnExactRowOfBoardUptoRow.holds Tryd.pinned (OpenSpec.upto fnExactRowOfBoardSpec)

/-- 'laws.FnExactSizeOfBoard', WHERE WHAT IT READS IS OF BULK AT MOST 1048576: true; the input reads as it did. -/
def fnExactSizeOfBoardUptoRow : OpenClaim := { program := "ytpfahibbmkcnoaadoor", sum := "19ea42762a112cc9d4b3c231c94cc4f5c8df76bd67088e68462186a4764ed671", func := "loop.example/g01271/laws.FnExactSizeOfBoard", spec := "fnExactSizeOfBoard", inPlace := ["internal/bytealg.CountString", "internal/bytealg.IndexByteString", "internal/bytealg.IndexString", "internal/abi.NoEscape", "internal/bytealg.MakeNoZero"], unfollowed := true, recurses := true, named := ["unicode/utf8.first", "unicode/utf8.acceptRanges", "internal/bytealg.MaxLen"], apart := false, laid := [("unicode/utf8.acceptRanges", laid_unicode_utf8_acceptRanges), ("unicode/utf8.first", laid_unicode_utf8_first)], narrowed := true }
def FnExactSizeOfBoardUptoSaid : Prop := fnExactSizeOfBoardUptoRow.holds Tryd.pinned (OpenSpec.upto fnExactSizeOfBoardSpec)

/-- 'laws.FnExactWayOnBoard', WHERE WHAT IT READS IS OF BULK AT MOST 1048576: true; the input reads as it did. -/
def fnExactWayOnBoardUptoRow : OpenClaim := { program := "ytpfahibbmkcnoaadoor", sum := "19ea42762a112cc9d4b3c231c94cc4f5c8df76bd67088e68462186a4764ed671", func := "loop.example/g01271/laws.FnExactWayOnBoard", spec := "fnExactWayOnBoard", inPlace := ["internal/bytealg.CountString", "internal/bytealg.IndexByteString", "internal/bytealg.IndexString", "internal/abi.NoEscape", "internal/bytealg.MakeNoZero"], unfollowed := true, recurses := true, named := ["unicode/utf8.first", "unicode/utf8.acceptRanges", "internal/bytealg.MaxLen"], apart := false, laid := [("unicode/utf8.acceptRanges", laid_unicode_utf8_acceptRanges), ("unicode/utf8.first", laid_unicode_utf8_first)], narrowed := true }
def FnExactWayOnBoardUptoSaid : Prop := fnExactWayOnBoardUptoRow.holds Tryd.pinned (OpenSpec.upto fnExactWayOnBoardSpec)

/-- 'laws.FnExactLinesBefore', WHERE WHAT IT READS IS OF BULK AT MOST 1048576: true; the input reads as it did. -/
def fnExactLinesBeforeUptoRow : OpenClaim := { program := "ytpfahibbmkcnoaadoor", sum := "19ea42762a112cc9d4b3c231c94cc4f5c8df76bd67088e68462186a4764ed671", func := "loop.example/g01271/laws.FnExactLinesBefore", spec := "fnExactLinesBefore", inPlace := ["internal/bytealg.IndexByteString", "internal/bytealg.IndexString"], recurses := true, named := ["unicode/utf8.first", "unicode/utf8.acceptRanges", "internal/bytealg.MaxLen"], apart := false, laid := [("unicode/utf8.acceptRanges", laid_unicode_utf8_acceptRanges), ("unicode/utf8.first", laid_unicode_utf8_first)], narrowed := true }
def FnExactLinesBeforeUptoSaid : Prop := fnExactLinesBeforeUptoRow.holds Tryd.pinned (OpenSpec.upto fnExactLinesBeforeSpec)

end Rows
end Go.Proofs.YtpfahibbmkcnoaaDoor
