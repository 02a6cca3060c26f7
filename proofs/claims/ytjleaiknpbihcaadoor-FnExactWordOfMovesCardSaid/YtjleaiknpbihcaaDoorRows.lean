/-
  NARROWER THAN 'FOR EVERY INPUT', by the rows' own cells (each row's printed sentence says how): FnExactRingBlocked: laid · FnExactCanMove: laid · FnExactCanOnRing: laid · FnExactIsJump: laid · FnExactMakeMove: laid · FnExactMakeOnRing: laid · FnExactCanByRule: laid · FnExactRingMoves: laid · FnExactMakeByRule: laid · FnExactWordOfMoves: laid · FnExactRuleMoves: laid.
  DERIVED. THE GIVEN ROWS OF THIS SEAT. 11 by the template 'for every input the law returns true; each argument reads behind the call as it read before'; 0 by the template 'total and deterministic' (their statements: YtjleaiknpbihcaaDoorTotals.lean).
  GIVEN WITH THE SEED: the statements are not yours to turn. If you find one false, say at which input.
  Laid BY PROGRAM, IN A SANDBOX (cutbox-rows.mjs): the forced cells as the released guide's own fill.sh prints them over the translation 3a0ae5b0a12f7772… (all of the seat's roots in one cut). By AI agents, Wed Nov 11 2026. No macro, syntax, notation, axiom, sorry.
-/
import Derived.Test.YtjleaiknpbihcaaDoorChecked
import GoSem.PinnedTables
import GoSem.Claim
import GoSem.ClaimJoined
import GoSem.ClaimMapViews
import Derived.JoinedTies
import Derived.KernelRfl
namespace Go.Proofs.YtjleaiknpbihcaaDoor
/- THE CELL 'sum', in the pinned program and in every row, IS THE sha256 OF THE DUMP (.gsa) THAT YtjleaiknpbihcaaDoorProg.lean LOADS. Nothing in Lean hashes anything: it is a label: what it is worth is what the hold of that sum in a sandbox is worth. -/
noncomputable def Tryd.pinned : Pinned := { name := "ytjleaiknpbihcaadoor", sum := "3a0ae5b0a12f7772810e249b8e01a5fbfb1f9799daf9fa0200744d8b9232b8e0", checked := Tryd.checked }
namespace Rows
def none {H : Type} : Left H := { results := [], args := [] }

/- WHAT THE LISTED PACKAGE-LEVEL VARIABLES READ AS WHEN THE CALL BEGINS. Each datum BY PROGRAM (the guide's laid-datum.mjs) off the statement by which the dump's own 'gosem.cut.vars' lays the variable. In a bare row this is a premise. The card (YtjleaiknpbihcaaDoorCards.lean) ties it to the program's text. -/
def laid_unicode_utf8_acceptRanges {H : Type} : DataW H := .agg [.agg [.lit (.int .u8 128), .lit (.int .u8 191)], .agg [.lit (.int .u8 160), .lit (.int .u8 191)], .agg [.lit (.int .u8 128), .lit (.int .u8 159)], .agg [.lit (.int .u8 144), .lit (.int .u8 191)], .agg [.lit (.int .u8 128), .lit (.int .u8 143)], .agg [.lit (.int .u8 0), .lit (.int .u8 0)], .agg [.lit (.int .u8 0), .lit (.int .u8 0)], .agg [.lit (.int .u8 0), .lit (.int .u8 0)], .agg [.lit (.int .u8 0), .lit (.int .u8 0)], .agg [.lit (.int .u8 0), .lit (.int .u8 0)], .agg [.lit (.int .u8 0), .lit (.int .u8 0)], .agg [.lit (.int .u8 0), .lit (.int .u8 0)], .agg [.lit (.int .u8 0), .lit (.int .u8 0)], .agg [.lit (.int .u8 0), .lit (.int .u8 0)], .agg [.lit (.int .u8 0), .lit (.int .u8 0)], .agg [.lit (.int .u8 0), .lit (.int .u8 0)]]
/-- One of Go's own tables, pinned by name: the form's constant. -/
def laid_unicode_utf8_first : DataW Unit := Go.Pinned.utf8First

/-- 'laws.FnExactRingBlocked': WHATEVER THE INPUT: true; the input reads as it did. -/
def fnExactRingBlockedSpec : ChangeSpec := { name := "fnExactRingBlocked", fn := fun _ => fun
  | [d] => { results := [.lit (.bool true)], args := [d] }
  | _ => none }
def fnExactRingBlockedRow : OpenClaim := { program := "ytjleaiknpbihcaadoor", sum := "3a0ae5b0a12f7772810e249b8e01a5fbfb1f9799daf9fa0200744d8b9232b8e0", func := "loop.example/g01271/laws.FnExactRingBlocked", spec := "fnExactRingBlocked", inPlace := ["internal/bytealg.IndexByteString", "internal/bytealg.IndexString"], named := ["unicode/utf8.first", "unicode/utf8.acceptRanges", "internal/bytealg.MaxLen"], apart := false, laid := [("unicode/utf8.acceptRanges", laid_unicode_utf8_acceptRanges), ("unicode/utf8.first", laid_unicode_utf8_first)] }
def FnExactRingBlockedSaid : Prop := fnExactRingBlockedRow.holds Tryd.pinned (OpenSpec.ofChange fnExactRingBlockedSpec)

/-- ITS FALSE NEIGHBOUR: 'it returns false'. Refute it at one input. -/
def fnExactRingBlockedWrong : ChangeSpec := { name := "fnExactRingBlocked", fn := fun _ => fun
  | [d] => { results := [.lit (.bool false)], args := [d] }
  | _ => none }
def FnExactRingBlockedWrongFalsely : Prop := fnExactRingBlockedRow.holds Tryd.pinned (OpenSpec.ofChange fnExactRingBlockedWrong)

/-- 'laws.FnExactCanMove': WHATEVER THE INPUT: true; the input reads as it did. -/
def fnExactCanMoveSpec : ChangeSpec := { name := "fnExactCanMove", fn := fun _ => fun
  | [d1, d2] => { results := [.lit (.bool true)], args := [d1, d2] }
  | _ => none }
def fnExactCanMoveRow : OpenClaim := { program := "ytjleaiknpbihcaadoor", sum := "3a0ae5b0a12f7772810e249b8e01a5fbfb1f9799daf9fa0200744d8b9232b8e0", func := "loop.example/g01271/laws.FnExactCanMove", spec := "fnExactCanMove", inPlace := ["internal/bytealg.IndexByteString", "internal/bytealg.IndexString"], named := ["unicode/utf8.first", "unicode/utf8.acceptRanges", "internal/bytealg.MaxLen"], apart := false, laid := [("unicode/utf8.acceptRanges", laid_unicode_utf8_acceptRanges), ("unicode/utf8.first", laid_unicode_utf8_first)] }
def FnExactCanMoveSaid : Prop := fnExactCanMoveRow.holds Tryd.pinned (OpenSpec.ofChange fnExactCanMoveSpec)

/-- ITS FALSE NEIGHBOUR: 'it returns false'. Refute it at one input. -/
def fnExactCanMoveWrong : ChangeSpec := { name := "fnExactCanMove", fn := fun _ => fun
  | [d1, d2] => { results := [.lit (.bool false)], args := [d1, d2] }
  | _ => none }
def FnExactCanMoveWrongFalsely : Prop := fnExactCanMoveRow.holds Tryd.pinned (OpenSpec.ofChange fnExactCanMoveWrong)

/-- 'laws.FnExactCanOnRing': WHATEVER THE INPUT: true; the input reads as it did. -/
def fnExactCanOnRingSpec : ChangeSpec := { name := "fnExactCanOnRing", fn := fun _ => fun
  | [d1, d2] => { results := [.lit (.bool true)], args := [d1, d2] }
  | _ => none }
def fnExactCanOnRingRow : OpenClaim := { program := "ytjleaiknpbihcaadoor", sum := "3a0ae5b0a12f7772810e249b8e01a5fbfb1f9799daf9fa0200744d8b9232b8e0", func := "loop.example/g01271/laws.FnExactCanOnRing", spec := "fnExactCanOnRing", inPlace := ["internal/bytealg.IndexByteString", "internal/bytealg.IndexString"], named := ["unicode/utf8.first", "unicode/utf8.acceptRanges", "internal/bytealg.MaxLen"], apart := false, laid := [("unicode/utf8.acceptRanges", laid_unicode_utf8_acceptRanges), ("unicode/utf8.first", laid_unicode_utf8_first)] }
def FnExactCanOnRingSaid : Prop := fnExactCanOnRingRow.holds Tryd.pinned (OpenSpec.ofChange fnExactCanOnRingSpec)

/-- ITS FALSE NEIGHBOUR: 'it returns false'. Refute it at one input. -/
def fnExactCanOnRingWrong : ChangeSpec := { name := "fnExactCanOnRing", fn := fun _ => fun
  | [d1, d2] => { results := [.lit (.bool false)], args := [d1, d2] }
  | _ => none }
def FnExactCanOnRingWrongFalsely : Prop := fnExactCanOnRingRow.holds Tryd.pinned (OpenSpec.ofChange fnExactCanOnRingWrong)

/-- 'laws.FnExactIsJump': WHATEVER THE INPUT: true; the input reads as it did. -/
def fnExactIsJumpSpec : ChangeSpec := { name := "fnExactIsJump", fn := fun _ => fun
  | [d1, d2] => { results := [.lit (.bool true)], args := [d1, d2] }
  | _ => none }
def fnExactIsJumpRow : OpenClaim := { program := "ytjleaiknpbihcaadoor", sum := "3a0ae5b0a12f7772810e249b8e01a5fbfb1f9799daf9fa0200744d8b9232b8e0", func := "loop.example/g01271/laws.FnExactIsJump", spec := "fnExactIsJump", inPlace := ["internal/bytealg.IndexByteString", "internal/bytealg.IndexString"], named := ["unicode/utf8.first", "unicode/utf8.acceptRanges", "internal/bytealg.MaxLen"], apart := false, laid := [("unicode/utf8.acceptRanges", laid_unicode_utf8_acceptRanges), ("unicode/utf8.first", laid_unicode_utf8_first)] }
def FnExactIsJumpSaid : Prop := fnExactIsJumpRow.holds Tryd.pinned (OpenSpec.ofChange fnExactIsJumpSpec)

/-- ITS FALSE NEIGHBOUR: 'it returns false'. Refute it at one input. -/
def fnExactIsJumpWrong : ChangeSpec := { name := "fnExactIsJump", fn := fun _ => fun
  | [d1, d2] => { results := [.lit (.bool false)], args := [d1, d2] }
  | _ => none }
def FnExactIsJumpWrongFalsely : Prop := fnExactIsJumpRow.holds Tryd.pinned (OpenSpec.ofChange fnExactIsJumpWrong)

/-- 'laws.FnExactMakeMove': WHATEVER THE INPUT: true; the input reads as it did. -/
def fnExactMakeMoveSpec : ChangeSpec := { name := "fnExactMakeMove", fn := fun _ => fun
  | [d1, d2] => { results := [.lit (.bool true)], args := [d1, d2] }
  | _ => none }
def fnExactMakeMoveRow : OpenClaim := { program := "ytjleaiknpbihcaadoor", sum := "3a0ae5b0a12f7772810e249b8e01a5fbfb1f9799daf9fa0200744d8b9232b8e0", func := "loop.example/g01271/laws.FnExactMakeMove", spec := "fnExactMakeMove", inPlace := ["internal/bytealg.IndexByteString", "internal/bytealg.IndexString"], named := ["unicode/utf8.first", "unicode/utf8.acceptRanges", "internal/bytealg.MaxLen"], apart := false, laid := [("unicode/utf8.acceptRanges", laid_unicode_utf8_acceptRanges), ("unicode/utf8.first", laid_unicode_utf8_first)] }
def FnExactMakeMoveSaid : Prop := fnExactMakeMoveRow.holds Tryd.pinned (OpenSpec.ofChange fnExactMakeMoveSpec)

/-- ITS FALSE NEIGHBOUR: 'it returns false'. Refute it at one input. -/
def fnExactMakeMoveWrong : ChangeSpec := { name := "fnExactMakeMove", fn := fun _ => fun
  | [d1, d2] => { results := [.lit (.bool false)], args := [d1, d2] }
  | _ => none }
def FnExactMakeMoveWrongFalsely : Prop := fnExactMakeMoveRow.holds Tryd.pinned (OpenSpec.ofChange fnExactMakeMoveWrong)

/-- 'laws.FnExactMakeOnRing': WHATEVER THE INPUT: true; the input reads as it did. -/
def fnExactMakeOnRingSpec : ChangeSpec := { name := "fnExactMakeOnRing", fn := fun _ => fun
  | [d1, d2] => { results := [.lit (.bool true)], args := [d1, d2] }
  | _ => none }
def fnExactMakeOnRingRow : OpenClaim := { program := "ytjleaiknpbihcaadoor", sum := "3a0ae5b0a12f7772810e249b8e01a5fbfb1f9799daf9fa0200744d8b9232b8e0", func := "loop.example/g01271/laws.FnExactMakeOnRing", spec := "fnExactMakeOnRing", inPlace := ["internal/bytealg.IndexByteString", "internal/bytealg.IndexString"], named := ["unicode/utf8.first", "unicode/utf8.acceptRanges", "internal/bytealg.MaxLen"], apart := false, laid := [("unicode/utf8.acceptRanges", laid_unicode_utf8_acceptRanges), ("unicode/utf8.first", laid_unicode_utf8_first)] }
def FnExactMakeOnRingSaid : Prop := fnExactMakeOnRingRow.holds Tryd.pinned (OpenSpec.ofChange fnExactMakeOnRingSpec)

/-- ITS FALSE NEIGHBOUR: 'it returns false'. Refute it at one input. -/
def fnExactMakeOnRingWrong : ChangeSpec := { name := "fnExactMakeOnRing", fn := fun _ => fun
  | [d1, d2] => { results := [.lit (.bool false)], args := [d1, d2] }
  | _ => none }
def FnExactMakeOnRingWrongFalsely : Prop := fnExactMakeOnRingRow.holds Tryd.pinned (OpenSpec.ofChange fnExactMakeOnRingWrong)

/-- 'laws.FnExactCanByRule': WHATEVER THE INPUT: true; the input reads as it did. -/
def fnExactCanByRuleSpec : ChangeSpec := { name := "fnExactCanByRule", fn := fun _ => fun
  | [d1, d2, d3] => { results := [.lit (.bool true)], args := [d1, d2, d3] }
  | _ => none }
def fnExactCanByRuleRow : OpenClaim := { program := "ytjleaiknpbihcaadoor", sum := "3a0ae5b0a12f7772810e249b8e01a5fbfb1f9799daf9fa0200744d8b9232b8e0", func := "loop.example/g01271/laws.FnExactCanByRule", spec := "fnExactCanByRule", inPlace := ["internal/bytealg.IndexByteString", "internal/bytealg.IndexString"], named := ["unicode/utf8.first", "unicode/utf8.acceptRanges", "internal/bytealg.MaxLen"], apart := false, laid := [("unicode/utf8.acceptRanges", laid_unicode_utf8_acceptRanges), ("unicode/utf8.first", laid_unicode_utf8_first)] }
def FnExactCanByRuleSaid : Prop := fnExactCanByRuleRow.holds Tryd.pinned (OpenSpec.ofChange fnExactCanByRuleSpec)

/-- ITS FALSE NEIGHBOUR: 'it returns false'. Refute it at one input. -/
def fnExactCanByRuleWrong : ChangeSpec := { name := "fnExactCanByRule", fn := fun _ => fun
  | [d1, d2, d3] => { results := [.lit (.bool false)], args := [d1, d2, d3] }
  | _ => none }
def FnExactCanByRuleWrongFalsely : Prop := fnExactCanByRuleRow.holds Tryd.pinned (OpenSpec.ofChange fnExactCanByRuleWrong)

/-- 'laws.FnExactRingMoves': WHATEVER THE INPUT: true; the input reads as it did. -/
def fnExactRingMovesSpec : ChangeSpec := { name := "fnExactRingMoves", fn := fun _ => fun
  | [d] => { results := [.lit (.bool true)], args := [d] }
  | _ => none }
def fnExactRingMovesRow : OpenClaim := { program := "ytjleaiknpbihcaadoor", sum := "3a0ae5b0a12f7772810e249b8e01a5fbfb1f9799daf9fa0200744d8b9232b8e0", func := "loop.example/g01271/laws.FnExactRingMoves", spec := "fnExactRingMoves", inPlace := ["internal/bytealg.IndexByteString", "internal/bytealg.IndexString"], named := ["unicode/utf8.first", "unicode/utf8.acceptRanges", "internal/bytealg.MaxLen"], apart := false, laid := [("unicode/utf8.acceptRanges", laid_unicode_utf8_acceptRanges), ("unicode/utf8.first", laid_unicode_utf8_first)] }
def FnExactRingMovesSaid : Prop := fnExactRingMovesRow.holds Tryd.pinned (OpenSpec.ofChange fnExactRingMovesSpec)

/-- ITS FALSE NEIGHBOUR: 'it returns false'. Refute it at one input. -/
def fnExactRingMovesWrong : ChangeSpec := { name := "fnExactRingMoves", fn := fun _ => fun
  | [d] => { results := [.lit (.bool false)], args := [d] }
  | _ => none }
def FnExactRingMovesWrongFalsely : Prop := fnExactRingMovesRow.holds Tryd.pinned (OpenSpec.ofChange fnExactRingMovesWrong)

/-- 'laws.FnExactMakeByRule': WHATEVER THE INPUT: true; the input reads as it did. -/
def fnExactMakeByRuleSpec : ChangeSpec := { name := "fnExactMakeByRule", fn := fun _ => fun
  | [d1, d2, d3] => { results := [.lit (.bool true)], args := [d1, d2, d3] }
  | _ => none }
def fnExactMakeByRuleRow : OpenClaim := { program := "ytjleaiknpbihcaadoor", sum := "3a0ae5b0a12f7772810e249b8e01a5fbfb1f9799daf9fa0200744d8b9232b8e0", func := "loop.example/g01271/laws.FnExactMakeByRule", spec := "fnExactMakeByRule", inPlace := ["internal/bytealg.IndexByteString", "internal/bytealg.IndexString"], named := ["unicode/utf8.first", "unicode/utf8.acceptRanges", "internal/bytealg.MaxLen"], apart := false, laid := [("unicode/utf8.acceptRanges", laid_unicode_utf8_acceptRanges), ("unicode/utf8.first", laid_unicode_utf8_first)] }
def FnExactMakeByRuleSaid : Prop := fnExactMakeByRuleRow.holds Tryd.pinned (OpenSpec.ofChange fnExactMakeByRuleSpec)

/-- ITS FALSE NEIGHBOUR: 'it returns false'. Refute it at one input. -/
def fnExactMakeByRuleWrong : ChangeSpec := { name := "fnExactMakeByRule", fn := fun _ => fun
  | [d1, d2, d3] => { results := [.lit (.bool false)], args := [d1, d2, d3] }
  | _ => none }
def FnExactMakeByRuleWrongFalsely : Prop := fnExactMakeByRuleRow.holds Tryd.pinned (OpenSpec.ofChange fnExactMakeByRuleWrong)

/-- 'laws.FnExactWordOfMoves': WHATEVER THE INPUT: true; the input reads as it did. -/
def fnExactWordOfMovesSpec : ChangeSpec := { name := "fnExactWordOfMoves", fn := fun _ => fun
  | [d1, d2] => { results := [.lit (.bool true)], args := [d1, d2] }
  | _ => none }
def fnExactWordOfMovesRow : OpenClaim := { program := "ytjleaiknpbihcaadoor", sum := "3a0ae5b0a12f7772810e249b8e01a5fbfb1f9799daf9fa0200744d8b9232b8e0", func := "loop.example/g01271/laws.FnExactWordOfMoves", spec := "fnExactWordOfMoves", inPlace := ["internal/bytealg.IndexByteString", "internal/bytealg.IndexString"], named := ["unicode/utf8.first", "unicode/utf8.acceptRanges", "internal/bytealg.MaxLen"], apart := false, laid := [("unicode/utf8.acceptRanges", laid_unicode_utf8_acceptRanges), ("unicode/utf8.first", laid_unicode_utf8_first)] }
def FnExactWordOfMovesSaid : Prop := fnExactWordOfMovesRow.holds Tryd.pinned (OpenSpec.ofChange fnExactWordOfMovesSpec)

/-- ITS FALSE NEIGHBOUR: 'it returns false'. Refute it at one input. -/
def fnExactWordOfMovesWrong : ChangeSpec := { name := "fnExactWordOfMoves", fn := fun _ => fun
  | [d1, d2] => { results := [.lit (.bool false)], args := [d1, d2] }
  | _ => none }
def FnExactWordOfMovesWrongFalsely : Prop := fnExactWordOfMovesRow.holds Tryd.pinned (OpenSpec.ofChange fnExactWordOfMovesWrong)

/-- 'laws.FnExactRuleMoves': WHATEVER THE INPUT: true; the input reads as it did. -/
def fnExactRuleMovesSpec : ChangeSpec := { name := "fnExactRuleMoves", fn := fun _ => fun
  | [d1, d2] => { results := [.lit (.bool true)], args := [d1, d2] }
  | _ => none }
def fnExactRuleMovesRow : OpenClaim := { program := "ytjleaiknpbihcaadoor", sum := "3a0ae5b0a12f7772810e249b8e01a5fbfb1f9799daf9fa0200744d8b9232b8e0", func := "loop.example/g01271/laws.FnExactRuleMoves", spec := "fnExactRuleMoves", inPlace := ["internal/bytealg.IndexByteString", "internal/bytealg.IndexString"], named := ["unicode/utf8.first", "unicode/utf8.acceptRanges", "internal/bytealg.MaxLen"], apart := false, laid := [("unicode/utf8.acceptRanges", laid_unicode_utf8_acceptRanges), ("unicode/utf8.first", laid_unicode_utf8_first)] }
def FnExactRuleMovesSaid : Prop := fnExactRuleMovesRow.holds Tryd.pinned (OpenSpec.ofChange fnExactRuleMovesSpec)

/-- ITS FALSE NEIGHBOUR: 'it returns false'. Refute it at one input. -/
def fnExactRuleMovesWrong : ChangeSpec := { name := "fnExactRuleMoves", fn := fun _ => fun
  | [d1, d2] => { results := [.lit (.bool false)], args := [d1, d2] }
  | _ => none }
def FnExactRuleMovesWrongFalsely : Prop := fnExactRuleMovesRow.holds Tryd.pinned (OpenSpec.ofChange fnExactRuleMovesWrong)

/- THE SECOND FORM. 'bulk': how many values and letters a reading holds, each counted each time it is reached (what is shared counts as often as it is met; a slice's spare places count too). A statement '..UptoSaid' is the law's where the arguments, and the package variables that the reading takes, are together of bulk at most 1048576: NARROWER than '..Said'. Prove '..Said' where nothing that the law and all that it calls make is longer than what came in: it says more and counts as full. Else prove '..UptoSaid'. A law counts once. -/
mutual
def uptoBulk {H : Type} : DataW H → Nat
  | .lit (.string bytes) => bytes.length + 1
  | .lit _ => 1
  | .nil => 1
  | .ptr d => uptoBulk d + 1
  | .slice elems spare => uptoBulkAll elems + uptoBulkAll spare + 1
  | .agg parts => uptoBulkAll parts + 1
  | .iface _ d => uptoBulk d + 1
  | .map entries => uptoBulkEntries entries + 1
  | .held _ => 1
def uptoBulkAll {H : Type} : List (DataW H) → Nat
  | [] => 0
  | d :: r => uptoBulk d + uptoBulkAll r
def uptoBulkEntries {H : Type} : List (Lit × DataW H) → Nat
  | [] => 0
  | x :: r => uptoBulkEntry x + uptoBulkEntries r
def uptoBulkEntry {H : Type} : Lit × DataW H → Nat
  | (.string bytes, d) => bytes.length + uptoBulk d + 1
  | (_, d) => uptoBulk d + 1
 end
def uptoSmall : (H : Type) → List (DataW H) → Bool := fun _ ds => decide (uptoBulkAll ds ≤ 1048576)
def OpenSpec.upto (s : _root_.Go.ChangeSpec) : _root_.Go.OpenSpec := { _root_.Go.OpenSpec.ofChange s with cond := some uptoSmall }

/-- 'laws.FnExactRingBlocked', WHERE WHAT IT READS IS OF BULK AT MOST 1048576: true; the input reads as it did. -/
def fnExactRingBlockedUptoRow : OpenClaim := { program := "ytjleaiknpbihcaadoor", sum := "3a0ae5b0a12f7772810e249b8e01a5fbfb1f9799daf9fa0200744d8b9232b8e0", func := "loop.example/g01271/laws.FnExactRingBlocked", spec := "fnExactRingBlocked", inPlace := ["internal/bytealg.IndexByteString", "internal/bytealg.IndexString"], named := ["unicode/utf8.first", "unicode/utf8.acceptRanges", "internal/bytealg.MaxLen"], apart := false, laid := [("unicode/utf8.acceptRanges", laid_unicode_utf8_acceptRanges), ("unicode/utf8.first", laid_unicode_utf8_first)], narrowed := true }
def FnExactRingBlockedUptoSaid : Prop := fnExactRingBlockedUptoRow.holds Tryd.pinned (OpenSpec.upto fnExactRingBlockedSpec)

/-- 'laws.FnExactCanMove', WHERE WHAT IT READS IS OF BULK AT MOST 1048576: true; the input reads as it did. -/
def fnExactCanMoveUptoRow : OpenClaim := { program := "ytjleaiknpbihcaadoor", sum := "3a0ae5b0a12f7772810e249b8e01a5fbfb1f9799daf9fa0200744d8b9232b8e0", func := "loop.example/g01271/laws.FnExactCanMove", spec := "fnExactCanMove", inPlace := ["internal/bytealg.IndexByteString", "internal/bytealg.IndexString"], named := ["unicode/utf8.first", "unicode/utf8.acceptRanges", "internal/bytealg.MaxLen"], apart := false, laid := [("unicode/utf8.acceptRanges", laid_unicode_utf8_acceptRanges), ("unicode/utf8.first", laid_unicode_utf8_first)], narrowed := true }
def FnExactCanMoveUptoSaid : Prop := fnExactCanMoveUptoRow.holds Tryd.pinned (OpenSpec.upto fnExactCanMoveSpec)

/-- 'laws.FnExactCanOnRing', WHERE WHAT IT READS IS OF BULK AT MOST 1048576: true; the input reads as it did. -/
def fnExactCanOnRingUptoRow : OpenClaim := { program := "ytjleaiknpbihcaadoor", sum := "3a0ae5b0a12f7772810e249b8e01a5fbfb1f9799daf9fa0200744d8b9232b8e0", func := "loop.example/g01271/laws.FnExactCanOnRing", spec := "fnExactCanOnRing", inPlace := ["internal/bytealg.IndexByteString", "internal/bytealg.IndexString"], named := ["unicode/utf8.first", "unicode/utf8.acceptRanges", "internal/bytealg.MaxLen"], apart := false, laid := [("unicode/utf8.acceptRanges", laid_unicode_utf8_acceptRanges), ("unicode/utf8.first", laid_unicode_utf8_first)], narrowed := true }
def FnExactCanOnRingUptoSaid : Prop := fnExactCanOnRingUptoRow.holds Tryd.pinned (OpenSpec.upto fnExactCanOnRingSpec)

/-- 'laws.FnExactIsJump', WHERE WHAT IT READS IS OF BULK AT MOST 1048576: true; the input reads as it did. -/
def fnExactIsJumpUptoRow : OpenClaim := { program := "ytjleaiknpbihcaadoor", sum := "3a0ae5b0a12f7772810e249b8e01a5fbfb1f9799daf9fa0200744d8b9232b8e0", func := "loop.example/g01271/laws.FnExactIsJump", spec := "fnExactIsJump", inPlace := ["internal/bytealg.IndexByteString", "internal/bytealg.IndexString"], named := ["unicode/utf8.first", "unicode/utf8.acceptRanges", "internal/bytealg.MaxLen"], apart := false, laid := [("unicode/utf8.acceptRanges", laid_unicode_utf8_acceptRanges), ("unicode/utf8.first", laid_unicode_utf8_first)], narrowed := true }
def FnExactIsJumpUptoSaid : Prop := fnExactIsJumpUptoRow.holds Tryd.pinned (OpenSpec.upto fnExactIsJumpSpec)

/-- 'laws.FnExactMakeMove', WHERE WHAT IT READS IS OF BULK AT MOST 1048576: true; the input reads as it did. -/
def fnExactMakeMoveUptoRow : OpenClaim := { program := "ytjleaiknpbihcaadoor", sum := "3a0ae5b0a12f7772810e249b8e01a5fbfb1f9799daf9fa0200744d8b9232b8e0", func := "loop.example/g01271/laws.FnExactMakeMove", spec := "fnExactMakeMove", inPlace := ["internal/bytealg.IndexByteString", "internal/bytealg.IndexString"], named := ["unicode/utf8.first", "unicode/utf8.acceptRanges", "internal/bytealg.MaxLen"], apart := false, laid := [("unicode/utf8.acceptRanges", laid_unicode_utf8_acceptRanges), ("unicode/utf8.first", laid_unicode_utf8_first)], narrowed := true }
def FnExactMakeMoveUptoSaid : Prop := fnExactMakeMoveUptoRow.holds Tryd.pinned (OpenSpec.upto fnExactMakeMoveSpec)

/-- 'laws.FnExactMakeOnRing', WHERE WHAT IT READS IS OF BULK AT MOST 1048576: true; the input reads as it did. -/
def fnExactMakeOnRingUptoRow : OpenClaim := { program := "ytjleaiknpbihcaadoor", sum := "3a0ae5b0a12f7772810e249b8e01a5fbfb1f9799daf9fa0200744d8b9232b8e0", func := "loop.example/g01271/laws.FnExactMakeOnRing", spec := "fnExactMakeOnRing", inPlace := ["internal/bytealg.IndexByteString", "internal/bytealg.IndexString"], named := ["unicode/utf8.first", "unicode/utf8.acceptRanges", "internal/bytealg.MaxLen"], apart := false, laid := [("unicode/utf8.acceptRanges", laid_unicode_utf8_acceptRanges), ("unicode/utf8.first", laid_unicode_utf8_first)], narrowed := true }
def FnExactMakeOnRingUptoSaid : Prop := fnExactMakeOnRingUptoRow.holds Tryd.pinned (OpenSpec.upto fnExactMakeOnRingSpec)

/-- 'laws.FnExactCanByRule', WHERE WHAT IT READS IS OF BULK AT MOST 1048576: true; the input reads as it did. -/
def fnExactCanByRuleUptoRow : OpenClaim := { program := "ytjleaiknpbihcaadoor", sum := "3a0ae5b0a12f7772810e249b8e01a5fbfb1f9799daf9fa0200744d8b9232b8e0", func := "loop.example/g01271/laws.FnExactCanByRule", spec := "fnExactCanByRule", inPlace := ["internal/bytealg.IndexByteString", "internal/bytealg.IndexString"], named := ["unicode/utf8.first", "unicode/utf8.acceptRanges", "internal/bytealg.MaxLen"], apart := false, laid := [("unicode/utf8.acceptRanges", laid_unicode_utf8_acceptRanges), ("unicode/utf8.first", laid_unicode_utf8_first)], narrowed := true }
def FnExactCanByRuleUptoSaid : Prop := fnExactCanByRuleUptoRow.holds Tryd.pinned (OpenSpec.upto fnExactCanByRuleSpec)

/-- 'laws.FnExactRingMoves', WHERE WHAT IT READS IS OF BULK AT MOST 1048576: true; the input reads as it did. -/
def fnExactRingMovesUptoRow : OpenClaim := { program := "ytjleaiknpbihcaadoor", sum := "3a0ae5b0a12f7772810e249b8e01a5fbfb1f9799daf9fa0200744d8b9232b8e0", func := "loop.example/g01271/laws.FnExactRingMoves", spec := "fnExactRingMoves", inPlace := ["internal/bytealg.IndexByteString", "internal/bytealg.IndexString"], named := ["unicode/utf8.first", "unicode/utf8.acceptRanges", "internal/bytealg.MaxLen"], apart := false, laid := [("unicode/utf8.acceptRanges", laid_unicode_utf8_acceptRanges), ("unicode/utf8.first", laid_unicode_utf8_first)], narrowed := true }
def FnExactRingMovesUptoSaid : Prop := fnExactRingMovesUptoRow.holds Tryd.pinned (OpenSpec.upto fnExactRingMovesSpec)

/-- 'laws.FnExactMakeByRule', WHERE WHAT IT READS IS OF BULK AT MOST 1048576: true; the input reads as it did. -/
def fnExactMakeByRuleUptoRow : OpenClaim := { program := "ytjleaiknpbihcaadoor", sum := "3a0ae5b0a12f7772810e249b8e01a5fbfb1f9799daf9fa0200744d8b9232b8e0", func := "loop.example/g01271/laws.FnExactMakeByRule", spec := "fnExactMakeByRule", inPlace := ["internal/bytealg.IndexByteString", "internal/bytealg.IndexString"], named := ["unicode/utf8.first", "unicode/utf8.acceptRanges", "internal/bytealg.MaxLen"], apart := false, laid := [("unicode/utf8.acceptRanges", laid_unicode_utf8_acceptRanges), ("unicode/utf8.first", laid_unicode_utf8_first)], narrowed := true }
def FnExactMakeByRuleUptoSaid : Prop := fnExactMakeByRuleUptoRow.holds Tryd.pinned (OpenSpec.upto fnExactMakeByRuleSpec)

/-- 'laws.FnExactWordOfMoves', WHERE WHAT IT READS IS OF BULK AT MOST 1048576: true; the input reads as it did. -/
def fnExactWordOfMovesUptoRow : OpenClaim := { program := "ytjleaiknpbihcaadoor", sum := "3a0ae5b0a12f7772810e249b8e01a5fbfb1f9799daf9fa0200744d8b9232b8e0", func := "loop.example/g01271/laws.FnExactWordOfMoves", spec := "fnExactWordOfMoves", inPlace := ["internal/bytealg.IndexByteString", "internal/bytealg.IndexString"], named := ["unicode/utf8.first", "unicode/utf8.acceptRanges", "internal/bytealg.MaxLen"], apart := false, laid := [("unicode/utf8.acceptRanges", laid_unicode_utf8_acceptRanges), ("unicode/utf8.first", laid_unicode_utf8_first)], narrowed := true }
def FnExactWordOfMovesUptoSaid : Prop := fnExactWordOfMovesUptoRow.holds Tryd.pinned (OpenSpec.upto fnExactWordOfMovesSpec)

/-- 'laws.FnExactRuleMoves', WHERE WHAT IT READS IS OF BULK AT MOST 1048576: true; the input reads as it did. -/
def fnExactRuleMovesUptoRow : OpenClaim := { program := "ytjleaiknpbihcaadoor", sum := "3a0ae5b0a12f7772810e249b8e01a5fbfb1f9799daf9fa0200744d8b9232b8e0", func := "loop.example/g01271/laws.FnExactRuleMoves", spec := "fnExactRuleMoves", inPlace := ["internal/bytealg.IndexByteString", "internal/bytealg.IndexString"], named := ["unicode/utf8.first", "unicode/utf8.acceptRanges", "internal/bytealg.MaxLen"], apart := false, laid := [("unicode/utf8.acceptRanges", laid_unicode_utf8_acceptRanges), ("unicode/utf8.first", laid_unicode_utf8_first)], narrowed := true }
def FnExactRuleMovesUptoSaid : Prop := fnExactRuleMovesUptoRow.holds Tryd.pinned (OpenSpec.upto fnExactRuleMovesSpec)

end Rows
end Go.Proofs.YtjleaiknpbihcaaDoor
