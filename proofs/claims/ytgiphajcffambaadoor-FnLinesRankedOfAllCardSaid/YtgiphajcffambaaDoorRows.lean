/-
  NARROWER THAN 'FOR EVERY INPUT', by the rows' own cells (each row's printed sentence says how): FnExactPlayOnRing: laid · FnExactPlayMoves: laid · FnExactMoveThatFails: laid · FnExactPlayByRule: laid · FnLinesRankedOfAll: laid · FnExactRankOfLine: laid · FnExactLastLine: laid.
  DERIVED. THE GIVEN ROWS OF THIS SEAT. 7 by the template 'for every input the law returns true; each argument reads behind the call as it read before'; 0 by the template 'total and deterministic' (their statements: YtgiphajcffambaaDoorTotals.lean).
  GIVEN WITH THE SEED: the statements are not yours to turn. If you find one false, say at which input.
  Laid BY PROGRAM, IN A SANDBOX (cutbox-rows.mjs): the forced cells as the released guide's own fill.sh prints them over the translation fde955b9ca05e499… (all of the seat's roots in one cut). By AI agents, Wed Nov 11 2026. No macro, syntax, notation, axiom, sorry.
-/
import Derived.Test.YtgiphajcffambaaDoorChecked
import GoSem.PinnedTables
import GoSem.Claim
import GoSem.ClaimJoined
import GoSem.ClaimMapViews
import Derived.JoinedTies
import Derived.KernelRfl
namespace Go.Proofs.YtgiphajcffambaaDoor
/- THE CELL 'sum', in the pinned program and in every row, IS THE sha256 OF THE DUMP (.gsa) THAT YtgiphajcffambaaDoorProg.lean LOADS. Nothing in Lean hashes anything: it is a label: what it is worth is what the hold of that sum in a sandbox is worth. -/
noncomputable def Tryd.pinned : Pinned := { name := "ytgiphajcffambaadoor", sum := "fde955b9ca05e4997d9cf28f1139ab6593a293ba13d4077088b6c3d86ad0b886", checked := Tryd.checked }
namespace Rows
def none {H : Type} : Left H := { results := [], args := [] }

/- WHAT THE LISTED PACKAGE-LEVEL VARIABLES READ AS WHEN THE CALL BEGINS. Each datum BY PROGRAM (the guide's laid-datum.mjs) off the statement by which the dump's own 'gosem.cut.vars' lays the variable. In a bare row this is a premise. The card (YtgiphajcffambaaDoorCards.lean) ties it to the program's text. -/
def laid_unicode_utf8_acceptRanges {H : Type} : DataW H := .agg [.agg [.lit (.int .u8 128), .lit (.int .u8 191)], .agg [.lit (.int .u8 160), .lit (.int .u8 191)], .agg [.lit (.int .u8 128), .lit (.int .u8 159)], .agg [.lit (.int .u8 144), .lit (.int .u8 191)], .agg [.lit (.int .u8 128), .lit (.int .u8 143)], .agg [.lit (.int .u8 0), .lit (.int .u8 0)], .agg [.lit (.int .u8 0), .lit (.int .u8 0)], .agg [.lit (.int .u8 0), .lit (.int .u8 0)], .agg [.lit (.int .u8 0), .lit (.int .u8 0)], .agg [.lit (.int .u8 0), .lit (.int .u8 0)], .agg [.lit (.int .u8 0), .lit (.int .u8 0)], .agg [.lit (.int .u8 0), .lit (.int .u8 0)], .agg [.lit (.int .u8 0), .lit (.int .u8 0)], .agg [.lit (.int .u8 0), .lit (.int .u8 0)], .agg [.lit (.int .u8 0), .lit (.int .u8 0)], .agg [.lit (.int .u8 0), .lit (.int .u8 0)]]
/-- One of Go's own tables, pinned by name: the form's constant. -/
def laid_unicode_utf8_first : DataW Unit := Go.Pinned.utf8First

/-- 'laws.FnExactPlayOnRing': WHATEVER THE INPUT: true; the input reads as it did. -/
def fnExactPlayOnRingSpec : ChangeSpec := { name := "fnExactPlayOnRing", fn := fun _ => fun
  | [d1, d2] => { results := [.lit (.bool true)], args := [d1, d2] }
  | _ => none }
def fnExactPlayOnRingRow : OpenClaim := { program := "ytgiphajcffambaadoor", sum := "fde955b9ca05e4997d9cf28f1139ab6593a293ba13d4077088b6c3d86ad0b886", func := "loop.example/g01271/laws.FnExactPlayOnRing", spec := "fnExactPlayOnRing", inPlace := ["internal/bytealg.IndexByteString", "internal/bytealg.IndexString"], unfollowed := true, recurses := true, named := ["unicode/utf8.first", "unicode/utf8.acceptRanges", "internal/bytealg.MaxLen"], apart := false, laid := [("unicode/utf8.acceptRanges", laid_unicode_utf8_acceptRanges), ("unicode/utf8.first", laid_unicode_utf8_first)] }
def FnExactPlayOnRingSaid : Prop := fnExactPlayOnRingRow.holds Tryd.pinned (OpenSpec.ofChange fnExactPlayOnRingSpec)

/-- ITS FALSE NEIGHBOUR: 'it returns false'. Refute it at one input. -/
def fnExactPlayOnRingWrong : ChangeSpec := { name := "fnExactPlayOnRing", fn := fun _ => fun
  | [d1, d2] => { results := [.lit (.bool false)], args := [d1, d2] }
  | _ => none }
def FnExactPlayOnRingWrongFalsely : Prop := fnExactPlayOnRingRow.holds Tryd.pinned (OpenSpec.ofChange fnExactPlayOnRingWrong)

/-- 'laws.FnExactPlayMoves': WHATEVER THE INPUT: true; the input reads as it did. -/
def fnExactPlayMovesSpec : ChangeSpec := { name := "fnExactPlayMoves", fn := fun _ => fun
  | [d1, d2] => { results := [.lit (.bool true)], args := [d1, d2] }
  | _ => none }
def fnExactPlayMovesRow : OpenClaim := { program := "ytgiphajcffambaadoor", sum := "fde955b9ca05e4997d9cf28f1139ab6593a293ba13d4077088b6c3d86ad0b886", func := "loop.example/g01271/laws.FnExactPlayMoves", spec := "fnExactPlayMoves", inPlace := ["internal/bytealg.IndexByteString", "internal/bytealg.IndexString"], unfollowed := true, recurses := true, named := ["unicode/utf8.first", "unicode/utf8.acceptRanges", "internal/bytealg.MaxLen"], apart := false, laid := [("unicode/utf8.acceptRanges", laid_unicode_utf8_acceptRanges), ("unicode/utf8.first", laid_unicode_utf8_first)] }
def FnExactPlayMovesSaid : Prop := fnExactPlayMovesRow.holds Tryd.pinned (OpenSpec.ofChange fnExactPlayMovesSpec)

/-- ITS FALSE NEIGHBOUR: 'it returns false'. Refute it at one input. -/
def fnExactPlayMovesWrong : ChangeSpec := { name := "fnExactPlayMoves", fn := fun _ => fun
  | [d1, d2] => { results := [.lit (.bool false)], args := [d1, d2] }
  | _ => none }
def FnExactPlayMovesWrongFalsely : Prop := fnExactPlayMovesRow.holds Tryd.pinned (OpenSpec.ofChange fnExactPlayMovesWrong)

/-- 'laws.FnExactMoveThatFails': WHATEVER THE INPUT: true; the input reads as it did. -/
def fnExactMoveThatFailsSpec : ChangeSpec := { name := "fnExactMoveThatFails", fn := fun _ => fun
  | [d1, d2] => { results := [.lit (.bool true)], args := [d1, d2] }
  | _ => none }
def fnExactMoveThatFailsRow : OpenClaim := { program := "ytgiphajcffambaadoor", sum := "fde955b9ca05e4997d9cf28f1139ab6593a293ba13d4077088b6c3d86ad0b886", func := "loop.example/g01271/laws.FnExactMoveThatFails", spec := "fnExactMoveThatFails", inPlace := ["internal/bytealg.IndexByteString", "internal/bytealg.IndexString"], unfollowed := true, recurses := true, named := ["unicode/utf8.first", "unicode/utf8.acceptRanges", "internal/bytealg.MaxLen"], apart := false, laid := [("unicode/utf8.acceptRanges", laid_unicode_utf8_acceptRanges), ("unicode/utf8.first", laid_unicode_utf8_first)] }
def FnExactMoveThatFailsSaid : Prop := fnExactMoveThatFailsRow.holds Tryd.pinned (OpenSpec.ofChange fnExactMoveThatFailsSpec)

/-- ITS FALSE NEIGHBOUR: 'it returns false'. Refute it at one input. -/
def fnExactMoveThatFailsWrong : ChangeSpec := { name := "fnExactMoveThatFails", fn := fun _ => fun
  | [d1, d2] => { results := [.lit (.bool false)], args := [d1, d2] }
  | _ => none }
def FnExactMoveThatFailsWrongFalsely : Prop := fnExactMoveThatFailsRow.holds Tryd.pinned (OpenSpec.ofChange fnExactMoveThatFailsWrong)

/-- 'laws.FnExactPlayByRule': WHATEVER THE INPUT: true; the input reads as it did. -/
def fnExactPlayByRuleSpec : ChangeSpec := { name := "fnExactPlayByRule", fn := fun _ => fun
  | [d1, d2, d3] => { results := [.lit (.bool true)], args := [d1, d2, d3] }
  | _ => none }
def fnExactPlayByRuleRow : OpenClaim := { program := "ytgiphajcffambaadoor", sum := "fde955b9ca05e4997d9cf28f1139ab6593a293ba13d4077088b6c3d86ad0b886", func := "loop.example/g01271/laws.FnExactPlayByRule", spec := "fnExactPlayByRule", inPlace := ["internal/bytealg.IndexByteString", "internal/bytealg.IndexString"], unfollowed := true, recurses := true, named := ["unicode/utf8.first", "unicode/utf8.acceptRanges", "internal/bytealg.MaxLen"], apart := false, laid := [("unicode/utf8.acceptRanges", laid_unicode_utf8_acceptRanges), ("unicode/utf8.first", laid_unicode_utf8_first)] }
def FnExactPlayByRuleSaid : Prop := fnExactPlayByRuleRow.holds Tryd.pinned (OpenSpec.ofChange fnExactPlayByRuleSpec)

/-- ITS FALSE NEIGHBOUR: 'it returns false'. Refute it at one input. -/
def fnExactPlayByRuleWrong : ChangeSpec := { name := "fnExactPlayByRule", fn := fun _ => fun
  | [d1, d2, d3] => { results := [.lit (.bool false)], args := [d1, d2, d3] }
  | _ => none }
def FnExactPlayByRuleWrongFalsely : Prop := fnExactPlayByRuleRow.holds Tryd.pinned (OpenSpec.ofChange fnExactPlayByRuleWrong)

/-- 'laws.FnLinesRankedOfAll': WHATEVER THE INPUT: true; the input reads as it did. -/
def fnLinesRankedOfAllSpec : ChangeSpec := { name := "fnLinesRankedOfAll", fn := fun _ => fun
  | [d1, d2, d3, d4, d5, d6, d7] => { results := [.lit (.bool true)], args := [d1, d2, d3, d4, d5, d6, d7] }
  | _ => none }
def fnLinesRankedOfAllRow : OpenClaim := { program := "ytgiphajcffambaadoor", sum := "fde955b9ca05e4997d9cf28f1139ab6593a293ba13d4077088b6c3d86ad0b886", func := "loop.example/g01271/laws.FnLinesRankedOfAll", spec := "fnLinesRankedOfAll", inPlace := ["internal/bytealg.IndexByteString", "internal/bytealg.IndexString", "internal/bytealg.CountString", "internal/abi.NoEscape", "internal/bytealg.MakeNoZero"], unfollowed := true, recurses := true, named := ["unicode/utf8.first", "unicode/utf8.acceptRanges", "internal/bytealg.MaxLen"], apart := false, laid := [("unicode/utf8.acceptRanges", laid_unicode_utf8_acceptRanges), ("unicode/utf8.first", laid_unicode_utf8_first)] }
def FnLinesRankedOfAllSaid : Prop := fnLinesRankedOfAllRow.holds Tryd.pinned (OpenSpec.ofChange fnLinesRankedOfAllSpec)

/-- ITS FALSE NEIGHBOUR: 'it returns false'. Refute it at one input. -/
def fnLinesRankedOfAllWrong : ChangeSpec := { name := "fnLinesRankedOfAll", fn := fun _ => fun
  | [d1, d2, d3, d4, d5, d6, d7] => { results := [.lit (.bool false)], args := [d1, d2, d3, d4, d5, d6, d7] }
  | _ => none }
def FnLinesRankedOfAllWrongFalsely : Prop := fnLinesRankedOfAllRow.holds Tryd.pinned (OpenSpec.ofChange fnLinesRankedOfAllWrong)

/-- 'laws.FnExactRankOfLine': WHATEVER THE INPUT: true; the input reads as it did. -/
def fnExactRankOfLineSpec : ChangeSpec := { name := "fnExactRankOfLine", fn := fun _ => fun
  | [d] => { results := [.lit (.bool true)], args := [d] }
  | _ => none }
def fnExactRankOfLineRow : OpenClaim := { program := "ytgiphajcffambaadoor", sum := "fde955b9ca05e4997d9cf28f1139ab6593a293ba13d4077088b6c3d86ad0b886", func := "loop.example/g01271/laws.FnExactRankOfLine", spec := "fnExactRankOfLine", inPlace := ["internal/bytealg.IndexByteString", "internal/bytealg.IndexString", "internal/bytealg.CountString"], named := ["unicode/utf8.first", "unicode/utf8.acceptRanges", "internal/bytealg.MaxLen"], apart := false, laid := [("unicode/utf8.acceptRanges", laid_unicode_utf8_acceptRanges), ("unicode/utf8.first", laid_unicode_utf8_first)] }
def FnExactRankOfLineSaid : Prop := fnExactRankOfLineRow.holds Tryd.pinned (OpenSpec.ofChange fnExactRankOfLineSpec)

/-- ITS FALSE NEIGHBOUR: 'it returns false'. Refute it at one input. -/
def fnExactRankOfLineWrong : ChangeSpec := { name := "fnExactRankOfLine", fn := fun _ => fun
  | [d] => { results := [.lit (.bool false)], args := [d] }
  | _ => none }
def FnExactRankOfLineWrongFalsely : Prop := fnExactRankOfLineRow.holds Tryd.pinned (OpenSpec.ofChange fnExactRankOfLineWrong)

/-- 'laws.FnExactLastLine': WHATEVER THE INPUT: true; the input reads as it did. -/
def fnExactLastLineSpec : ChangeSpec := { name := "fnExactLastLine", fn := fun _ => fun
  | [d] => { results := [.lit (.bool true)], args := [d] }
  | _ => none }
def fnExactLastLineRow : OpenClaim := { program := "ytgiphajcffambaadoor", sum := "fde955b9ca05e4997d9cf28f1139ab6593a293ba13d4077088b6c3d86ad0b886", func := "loop.example/g01271/laws.FnExactLastLine", spec := "fnExactLastLine", inPlace := ["internal/bytealg.IndexByteString", "internal/bytealg.IndexString", "internal/bytealg.CountString", "internal/abi.NoEscape", "internal/bytealg.MakeNoZero"], named := ["unicode/utf8.first", "unicode/utf8.acceptRanges", "internal/bytealg.MaxLen"], apart := false, laid := [("unicode/utf8.acceptRanges", laid_unicode_utf8_acceptRanges), ("unicode/utf8.first", laid_unicode_utf8_first)] }
def FnExactLastLineSaid : Prop := fnExactLastLineRow.holds Tryd.pinned (OpenSpec.ofChange fnExactLastLineSpec)

/-- ITS FALSE NEIGHBOUR: 'it returns false'. Refute it at one input. -/
def fnExactLastLineWrong : ChangeSpec := { name := "fnExactLastLine", fn := fun _ => fun
  | [d] => { results := [.lit (.bool false)], args := [d] }
  | _ => none }
def FnExactLastLineWrongFalsely : Prop := fnExactLastLineRow.holds Tryd.pinned (OpenSpec.ofChange fnExactLastLineWrong)

/- THE SECOND FORM. 'bulk': how many values and letters a reading holds, each counted each time it is reached (what is shared counts as often as it is met; a slice's spare places count too). A statement '..UptoSaid' is the law's where the arguments, and the package variables that the reading takes, are together of bulk at most 1048576: NARROWER than '..Said'. Prove '..Said' where nothing that the law and all that it calls make is longer than what came in: it says more and counts as full. Else prove '..UptoSaid'. A law counts once. -/
mutual
def uptoBulk {H : Type} : DataW H → Nat
  | .lit (.string bytes) => bytes.length + 1
  | .lit _ => 1
  | .nil => 1
  | .ptr d => uptoBulk d + 1
  | .slice elems spare => uptoBulkAll elems + uptoBulkAll spare + 1
  | .agg parts => uptoBulkAll parts + 1
  | .iface _ d => uptoBulk d + 1
  | .map entries => uptoBulkEntries entries + 1
  | .held _ => 1
def uptoBulkAll {H : Type} : List (DataW H) → Nat
  | [] => 0
  | d :: r => uptoBulk d + uptoBulkAll r
def uptoBulkEntries {H : Type} : List (Lit × DataW H) → Nat
  | [] => 0
  | x :: r => uptoBulkEntry x + uptoBulkEntries r
def uptoBulkEntry {H : Type} : Lit × DataW H → Nat
  | (.string bytes, d) => bytes.length + uptoBulk d + 1
  | (_, d) => uptoBulk d + 1
 end
def uptoSmall : (H : Type) → List (DataW H) → Bool := fun _ ds => decide (uptoBulkAll ds ≤ 1048576)
def OpenSpec.upto (s : _root_.Go.ChangeSpec) : _root_.Go.OpenSpec := { _root_.Go.OpenSpec.ofChange s with cond := some uptoSmall }

/-- 'laws.FnExactPlayOnRing', WHERE WHAT IT READS IS OF BULK AT MOST 1048576: true; the input reads as it did. -/
def fnExactPlayOnRingUptoRow : OpenClaim := { program := "ytgiphajcffambaadoor", sum := "fde955b9ca05e4997d9cf28f1139ab6593a293ba13d4077088b6c3d86ad0b886", func := "loop.example/g01271/laws.FnExactPlayOnRing", spec := "fnExactPlayOnRing", inPlace := ["internal/bytealg.IndexByteString", "internal/bytealg.IndexString"], unfollowed := true, recurses := true, named := ["unicode/utf8.first", "unicode/utf8.acceptRanges", "internal/bytealg.MaxLen"], apart := false, laid := [("unicode/utf8.acceptRanges", laid_unicode_utf8_acceptRanges), ("unicode/utf8.first", laid_unicode_utf8_first)], narrowed := true }
def FnExactPlayOnRingUptoSaid : Prop := fnExactPlayOnRingUptoRow.holds Tryd.pinned (OpenSpec.upto fnExactPlayOnRingSpec)

/-- 'laws.FnExactPlayMoves', WHERE WHAT IT READS IS OF BULK AT MOST 1048576: true; the input reads as it did. -/
def fnExactPlayMovesUptoRow : OpenClaim := { program := "ytgiphajcffambaadoor", sum := "fde955b9ca05e4997d9cf28f1139ab6593a293ba13d4077088b6c3d86ad0b886", func := "loop.example/g01271/laws.FnExactPlayMoves", spec := "fnExactPlayMoves", inPlace := ["internal/bytealg.IndexByteString", "internal/bytealg.IndexString"], unfollowed := true, recurses := true, named := ["unicode/utf8.first", "unicode/utf8.acceptRanges", "internal/bytealg.MaxLen"], apart := false, laid := [("unicode/utf8.acceptRanges", laid_unicode_utf8_acceptRanges), ("unicode/utf8.first", laid_unicode_utf8_first)], narrowed := true }
def FnExactPlayMovesUptoSaid : Prop := fnExactPlayMovesUptoRow.holds Tryd.pinned (OpenSpec.upto fnExactPlayMovesSpec)

/-- 'laws.FnExactMoveThatFails', WHERE WHAT IT READS IS OF BULK AT MOST 1048576: true; the input reads as it did. -/
def fnExactMoveThatFailsUptoRow : OpenClaim := { program := "ytgiphajcffambaadoor", sum := "fde955b9ca05e4997d9cf28f1139ab6593a293ba13d4077088b6c3d86ad0b886", func := "loop.example/g01271/laws.FnExactMoveThatFails", spec := "fnExactMoveThatFails", inPlace := ["internal/bytealg.IndexByteString", "internal/bytealg.IndexString"], unfollowed := true, recurses := true, named := ["unicode/utf8.first", "unicode/utf8.acceptRanges", "internal/bytealg.MaxLen"], apart := false, laid := [("unicode/utf8.acceptRanges", laid_unicode_utf8_acceptRanges), ("unicode/utf8.first", laid_unicode_utf8_first)], narrowed := true }
def FnExactMoveThatFailsUptoSaid : Prop := fnExactMoveThatFailsUptoRow.holds Tryd.pinned (OpenSpec.upto fnExactMoveThatFailsSpec)

/-- 'laws.FnExactPlayByRule', WHERE WHAT IT READS IS OF BULK AT MOST 1048576: true; the input reads as it did. -/
def fnExactPlayByRuleUptoRow : OpenClaim := { program := "ytgiphajcffambaadoor", sum := "fde955b9ca05e4997d9cf28f1139ab6593a293ba13d4077088b6c3d86ad0b886", func := "loop.example/g01271/laws.FnExactPlayByRule", spec := "fnExactPlayByRule", inPlace := ["internal/bytealg.IndexByteString", "internal/bytealg.IndexString"], unfollowed := true, recurses := true, named := ["unicode/utf8.first", "unicode/utf8.acceptRanges", "internal/bytealg.MaxLen"], apart := false, laid := [("unicode/utf8.acceptRanges", laid_unicode_utf8_acceptRanges), ("unicode/utf8.first", laid_unicode_utf8_first)], narrowed := true }
def FnExactPlayByRuleUptoSaid : Prop := fnExactPlayByRuleUptoRow.holds Tryd.pinned (OpenSpec.upto fnExactPlayByRuleSpec)

/-- 'laws.FnLinesRankedOfAll', WHERE WHAT IT READS IS OF BULK AT MOST 1048576: true; the input reads as it did. -/
def fnLinesRankedOfAllUptoRow : OpenClaim := { program := "ytgiphajcffambaadoor", sum := "fde955b9ca05e4997d9cf28f1139ab6593a293ba13d4077088b6c3d86ad0b886", func := "loop.example/g01271/laws.FnLinesRankedOfAll", spec := "fnLinesRankedOfAll", inPlace := ["internal/bytealg.IndexByteString", "internal/bytealg.IndexString", "internal/bytealg.CountString", "internal/abi.NoEscape", "internal/bytealg.MakeNoZero"], unfollowed := true, recurses := true, named := ["unicode/utf8.first", "unicode/utf8.acceptRanges", "internal/bytealg.MaxLen"], apart := false, laid := [("unicode/utf8.acceptRanges", laid_unicode_utf8_acceptRanges), ("unicode/utf8.first", laid_unicode_utf8_first)], narrowed := true }
def FnLinesRankedOfAllUptoSaid : Prop := fnLinesRankedOfAllUptoRow.holds Tryd.pinned (OpenSpec.upto fnLinesRankedOfAllSpec)

/-- 'laws.FnExactRankOfLine', WHERE WHAT IT READS IS OF BULK AT MOST 1048576: true; the input reads as it did. -/
def fnExactRankOfLineUptoRow : OpenClaim := { program := "ytgiphajcffambaadoor", sum := "fde955b9ca05e4997d9cf28f1139ab6593a293ba13d4077088b6c3d86ad0b886", func := "loop.example/g01271/laws.FnExactRankOfLine", spec := "fnExactRankOfLine", inPlace := ["internal/bytealg.IndexByteString", "internal/bytealg.IndexString", "internal/bytealg.CountString"], named := ["unicode/utf8.first", "unicode/utf8.acceptRanges", "internal/bytealg.MaxLen"], apart := false, laid := [("unicode/utf8.acceptRanges", laid_unicode_utf8_acceptRanges), ("unicode/utf8.first", laid_unicode_utf8_first)], narrowed := true }
def FnExactRankOfLineUptoSaid : Prop := fnExactRankOfLineUptoRow.holds Tryd.pinned (OpenSpec.upto fnExactRankOfLineSpec)

/-- 'laws.FnExactLastLine', WHERE WHAT IT READS IS OF BULK AT MOST 1048576: true; the input reads as it did. -/
def fnExactLastLineUptoRow : OpenClaim := { program := "ytgiphajcffambaadoor", sum := "fde955b9ca05e4997d9cf28f1139ab6593a293ba13d4077088b6c3d86ad0b886", func := "loop.example/g01271/laws.FnExactLastLine", spec := "fnExactLastLine", inPlace := ["internal/bytealg.IndexByteString", "internal/bytealg.IndexString", "internal/bytealg.CountString", "internal/abi.NoEscape", "internal/bytealg.MakeNoZero"], named := ["unicode/utf8.first", "unicode/utf8.acceptRanges", "internal/bytealg.MaxLen"], apart := false, laid := [("unicode/utf8.acceptRanges", laid_unicode_utf8_acceptRanges), ("unicode/utf8.first", laid_unicode_utf8_first)], narrowed := true }
def FnExactLastLineUptoSaid : Prop := fnExactLastLineUptoRow.holds Tryd.pinned (OpenSpec.upto fnExactLastLineSpec)

end Rows
end Go.Proofs.YtgiphajcffambaaDoor
