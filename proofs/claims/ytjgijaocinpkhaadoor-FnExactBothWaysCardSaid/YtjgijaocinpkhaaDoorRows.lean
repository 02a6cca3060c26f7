/-
  NARROWER THAN 'FOR EVERY INPUT', by the rows' own cells (each row's printed sentence says how): FnExactRingReached: laid · FnExactFarthestByRule: laid · FnExactCountReachedByRule: laid · FnExactReachByRule: laid · FnExactReachOnRing: laid · FnExactShortestOnRing: laid · FnExactComesAround: laid · FnExactShortestByRule: laid · FnExactBothWays: laid · FnExactPathOnRing: laid · FnExactFirstShortest: laid · FnExactFewestToExchange: laid.
  DERIVED. THE GIVEN ROWS OF THIS SEAT. 12 by the template 'for every input the law returns true; each argument reads behind the call as it read before'; 0 by the template 'total and deterministic' (their statements: YtjgijaocinpkhaaDoorTotals.lean).
  GIVEN WITH THE SEED: the statements are not yours to turn. If you find one false, say at which input.
  Laid BY PROGRAM, IN A SANDBOX (cutbox-rows.mjs): the forced cells as the released guide's own fill.sh prints them over the translation 45baa5a0c74abb11… (all of the seat's roots in one cut). By AI agents, Wed Nov 11 2026. No macro, syntax, notation, axiom, sorry.
-/
import Derived.Test.YtjgijaocinpkhaaDoorChecked
import GoSem.PinnedTables
import GoSem.Claim
import GoSem.ClaimJoined
import GoSem.ClaimMapViews
import Derived.JoinedTies
import Derived.KernelRfl
namespace Go.Proofs.YtjgijaocinpkhaaDoor
/- THE CELL 'sum', in the pinned program and in every row, IS THE sha256 OF THE DUMP (.gsa) THAT YtjgijaocinpkhaaDoorProg.lean LOADS. Nothing in Lean hashes anything: it is a label: what it is worth is what the hold of that sum in a sandbox is worth. -/
noncomputable def Tryd.pinned : Pinned := { name := "ytjgijaocinpkhaadoor", sum := "45baa5a0c74abb118fd900c59802a48e5867e4439158c837b536e3999949fa0c", checked := Tryd.checked }
namespace Rows
def none {H : Type} : Left H := { results := [], args := [] }

/- WHAT THE LISTED PACKAGE-LEVEL VARIABLES READ AS WHEN THE CALL BEGINS. Each datum BY PROGRAM (the guide's laid-datum.mjs) off the statement by which the dump's own 'gosem.cut.vars' lays the variable. In a bare row this is a premise. The card (YtjgijaocinpkhaaDoorCards.lean) ties it to the program's text. -/
def laid_unicode_utf8_acceptRanges {H : Type} : DataW H := .agg [.agg [.lit (.int .u8 128), .lit (.int .u8 191)], .agg [.lit (.int .u8 160), .lit (.int .u8 191)], .agg [.lit (.int .u8 128), .lit (.int .u8 159)], .agg [.lit (.int .u8 144), .lit (.int .u8 191)], .agg [.lit (.int .u8 128), .lit (.int .u8 143)], .agg [.lit (.int .u8 0), .lit (.int .u8 0)], .agg [.lit (.int .u8 0), .lit (.int .u8 0)], .agg [.lit (.int .u8 0), .lit (.int .u8 0)], .agg [.lit (.int .u8 0), .lit (.int .u8 0)], .agg [.lit (.int .u8 0), .lit (.int .u8 0)], .agg [.lit (.int .u8 0), .lit (.int .u8 0)], .agg [.lit (.int .u8 0), .lit (.int .u8 0)], .agg [.lit (.int .u8 0), .lit (.int .u8 0)], .agg [.lit (.int .u8 0), .lit (.int .u8 0)], .agg [.lit (.int .u8 0), .lit (.int .u8 0)], .agg [.lit (.int .u8 0), .lit (.int .u8 0)]]
/-- One of Go's own tables, pinned by name: the form's constant. -/
def laid_unicode_utf8_first : DataW Unit := Go.Pinned.utf8First

/-- 'laws.FnExactRingReached': WHATEVER THE INPUT: true; the input reads as it did. -/
def fnExactRingReachedSpec : ChangeSpec := { name := "fnExactRingReached", fn := fun _ => fun
  | [d] => { results := [.lit (.bool true)], args := [d] }
  | _ => none }
def fnExactRingReachedRow : OpenClaim := { program := "ytjgijaocinpkhaadoor", sum := "45baa5a0c74abb118fd900c59802a48e5867e4439158c837b536e3999949fa0c", func := "loop.example/g01271/laws.FnExactRingReached", spec := "fnExactRingReached", inPlace := ["internal/bytealg.IndexByteString", "internal/bytealg.IndexString"], unfollowed := true, recurses := true, named := ["unicode/utf8.first", "unicode/utf8.acceptRanges", "internal/bytealg.MaxLen"], apart := false, laid := [("unicode/utf8.acceptRanges", laid_unicode_utf8_acceptRanges), ("unicode/utf8.first", laid_unicode_utf8_first)] }
def FnExactRingReachedSaid : Prop := fnExactRingReachedRow.holds Tryd.pinned (OpenSpec.ofChange fnExactRingReachedSpec)

/-- ITS FALSE NEIGHBOUR: 'it returns false'. Refute it at one input. -/
def fnExactRingReachedWrong : ChangeSpec := { name := "fnExactRingReached", fn := fun _ => fun
  | [d] => { results := [.lit (.bool false)], args := [d] }
  | _ => none }
def FnExactRingReachedWrongFalsely : Prop := fnExactRingReachedRow.holds Tryd.pinned (OpenSpec.ofChange fnExactRingReachedWrong)

/-- 'laws.FnExactFarthestByRule': WHATEVER THE INPUT: true; the input reads as it did. -/
def fnExactFarthestByRuleSpec : ChangeSpec := { name := "fnExactFarthestByRule", fn := fun _ => fun
  | [d1, d2] => { results := [.lit (.bool true)], args := [d1, d2] }
  | _ => none }
def fnExactFarthestByRuleRow : OpenClaim := { program := "ytjgijaocinpkhaadoor", sum := "45baa5a0c74abb118fd900c59802a48e5867e4439158c837b536e3999949fa0c", func := "loop.example/g01271/laws.FnExactFarthestByRule", spec := "fnExactFarthestByRule", inPlace := ["internal/bytealg.IndexByteString", "internal/bytealg.IndexString"], unfollowed := true, recurses := true, named := ["unicode/utf8.first", "unicode/utf8.acceptRanges", "internal/bytealg.MaxLen"], apart := false, laid := [("unicode/utf8.acceptRanges", laid_unicode_utf8_acceptRanges), ("unicode/utf8.first", laid_unicode_utf8_first)] }
def FnExactFarthestByRuleSaid : Prop := fnExactFarthestByRuleRow.holds Tryd.pinned (OpenSpec.ofChange fnExactFarthestByRuleSpec)

/-- ITS FALSE NEIGHBOUR: 'it returns false'. Refute it at one input. -/
def fnExactFarthestByRuleWrong : ChangeSpec := { name := "fnExactFarthestByRule", fn := fun _ => fun
  | [d1, d2] => { results := [.lit (.bool false)], args := [d1, d2] }
  | _ => none }
def FnExactFarthestByRuleWrongFalsely : Prop := fnExactFarthestByRuleRow.holds Tryd.pinned (OpenSpec.ofChange fnExactFarthestByRuleWrong)

/-- 'laws.FnExactCountReachedByRule': WHATEVER THE INPUT: true; the input reads as it did. -/
def fnExactCountReachedByRuleSpec : ChangeSpec := { name := "fnExactCountReachedByRule", fn := fun _ => fun
  | [d1, d2] => { results := [.lit (.bool true)], args := [d1, d2] }
  | _ => none }
def fnExactCountReachedByRuleRow : OpenClaim := { program := "ytjgijaocinpkhaadoor", sum := "45baa5a0c74abb118fd900c59802a48e5867e4439158c837b536e3999949fa0c", func := "loop.example/g01271/laws.FnExactCountReachedByRule", spec := "fnExactCountReachedByRule", inPlace := ["internal/bytealg.IndexByteString", "internal/bytealg.IndexString"], unfollowed := true, recurses := true, named := ["unicode/utf8.first", "unicode/utf8.acceptRanges", "internal/bytealg.MaxLen"], apart := false, laid := [("unicode/utf8.acceptRanges", laid_unicode_utf8_acceptRanges), ("unicode/utf8.first", laid_unicode_utf8_first)] }
def FnExactCountReachedByRuleSaid : Prop := fnExactCountReachedByRuleRow.holds Tryd.pinned (OpenSpec.ofChange fnExactCountReachedByRuleSpec)

/-- ITS FALSE NEIGHBOUR: 'it returns false'. Refute it at one input. -/
def fnExactCountReachedByRuleWrong : ChangeSpec := { name := "fnExactCountReachedByRule", fn := fun _ => fun
  | [d1, d2] => { results := [.lit (.bool false)], args := [d1, d2] }
  | _ => none }
def FnExactCountReachedByRuleWrongFalsely : Prop := fnExactCountReachedByRuleRow.holds Tryd.pinned (OpenSpec.ofChange fnExactCountReachedByRuleWrong)

/-- 'laws.FnExactReachByRule': WHATEVER THE INPUT: true; the input reads as it did. -/
def fnExactReachByRuleSpec : ChangeSpec := { name := "fnExactReachByRule", fn := fun _ => fun
  | [d1, d2, d3] => { results := [.lit (.bool true)], args := [d1, d2, d3] }
  | _ => none }
def fnExactReachByRuleRow : OpenClaim := { program := "ytjgijaocinpkhaadoor", sum := "45baa5a0c74abb118fd900c59802a48e5867e4439158c837b536e3999949fa0c", func := "loop.example/g01271/laws.FnExactReachByRule", spec := "fnExactReachByRule", inPlace := ["internal/bytealg.IndexByteString", "internal/bytealg.IndexString"], unfollowed := true, recurses := true, named := ["unicode/utf8.first", "unicode/utf8.acceptRanges", "internal/bytealg.MaxLen"], apart := false, laid := [("unicode/utf8.acceptRanges", laid_unicode_utf8_acceptRanges), ("unicode/utf8.first", laid_unicode_utf8_first)] }
def FnExactReachByRuleSaid : Prop := fnExactReachByRuleRow.holds Tryd.pinned (OpenSpec.ofChange fnExactReachByRuleSpec)

/-- ITS FALSE NEIGHBOUR: 'it returns false'. Refute it at one input. -/
def fnExactReachByRuleWrong : ChangeSpec := { name := "fnExactReachByRule", fn := fun _ => fun
  | [d1, d2, d3] => { results := [.lit (.bool false)], args := [d1, d2, d3] }
  | _ => none }
def FnExactReachByRuleWrongFalsely : Prop := fnExactReachByRuleRow.holds Tryd.pinned (OpenSpec.ofChange fnExactReachByRuleWrong)

/-- 'laws.FnExactReachOnRing': WHATEVER THE INPUT: true; the input reads as it did. -/
def fnExactReachOnRingSpec : ChangeSpec := { name := "fnExactReachOnRing", fn := fun _ => fun
  | [d1, d2] => { results := [.lit (.bool true)], args := [d1, d2] }
  | _ => none }
def fnExactReachOnRingRow : OpenClaim := { program := "ytjgijaocinpkhaadoor", sum := "45baa5a0c74abb118fd900c59802a48e5867e4439158c837b536e3999949fa0c", func := "loop.example/g01271/laws.FnExactReachOnRing", spec := "fnExactReachOnRing", inPlace := ["internal/bytealg.IndexByteString", "internal/bytealg.IndexString"], unfollowed := true, recurses := true, named := ["unicode/utf8.first", "unicode/utf8.acceptRanges", "internal/bytealg.MaxLen"], apart := false, laid := [("unicode/utf8.acceptRanges", laid_unicode_utf8_acceptRanges), ("unicode/utf8.first", laid_unicode_utf8_first)] }
def FnExactReachOnRingSaid : Prop := fnExactReachOnRingRow.holds Tryd.pinned (OpenSpec.ofChange fnExactReachOnRingSpec)

/-- ITS FALSE NEIGHBOUR: 'it returns false'. Refute it at one input. -/
def fnExactReachOnRingWrong : ChangeSpec := { name := "fnExactReachOnRing", fn := fun _ => fun
  | [d1, d2] => { results := [.lit (.bool false)], args := [d1, d2] }
  | _ => none }
def FnExactReachOnRingWrongFalsely : Prop := fnExactReachOnRingRow.holds Tryd.pinned (OpenSpec.ofChange fnExactReachOnRingWrong)

/-- 'laws.FnExactShortestOnRing': WHATEVER THE INPUT: true; the input reads as it did. -/
def fnExactShortestOnRingSpec : ChangeSpec := { name := "fnExactShortestOnRing", fn := fun _ => fun
  | [d1, d2] => { results := [.lit (.bool true)], args := [d1, d2] }
  | _ => none }
def fnExactShortestOnRingRow : OpenClaim := { program := "ytjgijaocinpkhaadoor", sum := "45baa5a0c74abb118fd900c59802a48e5867e4439158c837b536e3999949fa0c", func := "loop.example/g01271/laws.FnExactShortestOnRing", spec := "fnExactShortestOnRing", inPlace := ["internal/bytealg.IndexByteString", "internal/bytealg.IndexString"], unfollowed := true, recurses := true, named := ["unicode/utf8.first", "unicode/utf8.acceptRanges", "internal/bytealg.MaxLen"], apart := false, laid := [("unicode/utf8.acceptRanges", laid_unicode_utf8_acceptRanges), ("unicode/utf8.first", laid_unicode_utf8_first)] }
def FnExactShortestOnRingSaid : Prop := fnExactShortestOnRingRow.holds Tryd.pinned (OpenSpec.ofChange fnExactShortestOnRingSpec)

/-- ITS FALSE NEIGHBOUR: 'it returns false'. Refute it at one input. -/
def fnExactShortestOnRingWrong : ChangeSpec := { name := "fnExactShortestOnRing", fn := fun _ => fun
  | [d1, d2] => { results := [.lit (.bool false)], args := [d1, d2] }
  | _ => none }
def FnExactShortestOnRingWrongFalsely : Prop := fnExactShortestOnRingRow.holds Tryd.pinned (OpenSpec.ofChange fnExactShortestOnRingWrong)

/-- 'laws.FnExactComesAround': WHATEVER THE INPUT: true; the input reads as it did. -/
def fnExactComesAroundSpec : ChangeSpec := { name := "fnExactComesAround", fn := fun _ => fun
  | [d] => { results := [.lit (.bool true)], args := [d] }
  | _ => none }
def fnExactComesAroundRow : OpenClaim := { program := "ytjgijaocinpkhaadoor", sum := "45baa5a0c74abb118fd900c59802a48e5867e4439158c837b536e3999949fa0c", func := "loop.example/g01271/laws.FnExactComesAround", spec := "fnExactComesAround", inPlace := ["internal/bytealg.IndexByteString", "internal/bytealg.IndexString"], unfollowed := true, recurses := true, named := ["unicode/utf8.first", "unicode/utf8.acceptRanges", "internal/bytealg.MaxLen"], apart := false, laid := [("unicode/utf8.acceptRanges", laid_unicode_utf8_acceptRanges), ("unicode/utf8.first", laid_unicode_utf8_first)] }
def FnExactComesAroundSaid : Prop := fnExactComesAroundRow.holds Tryd.pinned (OpenSpec.ofChange fnExactComesAroundSpec)

/-- ITS FALSE NEIGHBOUR: 'it returns false'. Refute it at one input. -/
def fnExactComesAroundWrong : ChangeSpec := { name := "fnExactComesAround", fn := fun _ => fun
  | [d] => { results := [.lit (.bool false)], args := [d] }
  | _ => none }
def FnExactComesAroundWrongFalsely : Prop := fnExactComesAroundRow.holds Tryd.pinned (OpenSpec.ofChange fnExactComesAroundWrong)

/-- 'laws.FnExactShortestByRule': WHATEVER THE INPUT: true; the input reads as it did. -/
def fnExactShortestByRuleSpec : ChangeSpec := { name := "fnExactShortestByRule", fn := fun _ => fun
  | [d1, d2, d3] => { results := [.lit (.bool true)], args := [d1, d2, d3] }
  | _ => none }
def fnExactShortestByRuleRow : OpenClaim := { program := "ytjgijaocinpkhaadoor", sum := "45baa5a0c74abb118fd900c59802a48e5867e4439158c837b536e3999949fa0c", func := "loop.example/g01271/laws.FnExactShortestByRule", spec := "fnExactShortestByRule", inPlace := ["internal/bytealg.IndexByteString", "internal/bytealg.IndexString"], unfollowed := true, recurses := true, named := ["unicode/utf8.first", "unicode/utf8.acceptRanges", "internal/bytealg.MaxLen"], apart := false, laid := [("unicode/utf8.acceptRanges", laid_unicode_utf8_acceptRanges), ("unicode/utf8.first", laid_unicode_utf8_first)] }
def FnExactShortestByRuleSaid : Prop := fnExactShortestByRuleRow.holds Tryd.pinned (OpenSpec.ofChange fnExactShortestByRuleSpec)

/-- ITS FALSE NEIGHBOUR: 'it returns false'. Refute it at one input. -/
def fnExactShortestByRuleWrong : ChangeSpec := { name := "fnExactShortestByRule", fn := fun _ => fun
  | [d1, d2, d3] => { results := [.lit (.bool false)], args := [d1, d2, d3] }
  | _ => none }
def FnExactShortestByRuleWrongFalsely : Prop := fnExactShortestByRuleRow.holds Tryd.pinned (OpenSpec.ofChange fnExactShortestByRuleWrong)

/-- 'laws.FnExactBothWays': WHATEVER THE INPUT: true; the input reads as it did. -/
def fnExactBothWaysSpec : ChangeSpec := { name := "fnExactBothWays", fn := fun _ => fun
  | [d1, d2] => { results := [.lit (.bool true)], args := [d1, d2] }
  | _ => none }
def fnExactBothWaysRow : OpenClaim := { program := "ytjgijaocinpkhaadoor", sum := "45baa5a0c74abb118fd900c59802a48e5867e4439158c837b536e3999949fa0c", func := "loop.example/g01271/laws.FnExactBothWays", spec := "fnExactBothWays", inPlace := ["internal/bytealg.IndexByteString", "internal/bytealg.IndexString"], unfollowed := true, recurses := true, named := ["unicode/utf8.first", "unicode/utf8.acceptRanges", "internal/bytealg.MaxLen"], apart := false, laid := [("unicode/utf8.acceptRanges", laid_unicode_utf8_acceptRanges), ("unicode/utf8.first", laid_unicode_utf8_first)] }
def FnExactBothWaysSaid : Prop := fnExactBothWaysRow.holds Tryd.pinned (OpenSpec.ofChange fnExactBothWaysSpec)

/-- ITS FALSE NEIGHBOUR: 'it returns false'. Refute it at one input. -/
def fnExactBothWaysWrong : ChangeSpec := { name := "fnExactBothWays", fn := fun _ => fun
  | [d1, d2] => { results := [.lit (.bool false)], args := [d1, d2] }
  | _ => none }
def FnExactBothWaysWrongFalsely : Prop := fnExactBothWaysRow.holds Tryd.pinned (OpenSpec.ofChange fnExactBothWaysWrong)

/-- 'laws.FnExactPathOnRing': WHATEVER THE INPUT: true; the input reads as it did. -/
def fnExactPathOnRingSpec : ChangeSpec := { name := "fnExactPathOnRing", fn := fun _ => fun
  | [d1, d2] => { results := [.lit (.bool true)], args := [d1, d2] }
  | _ => none }
def fnExactPathOnRingRow : OpenClaim := { program := "ytjgijaocinpkhaadoor", sum := "45baa5a0c74abb118fd900c59802a48e5867e4439158c837b536e3999949fa0c", func := "loop.example/g01271/laws.FnExactPathOnRing", spec := "fnExactPathOnRing", inPlace := ["internal/bytealg.IndexByteString", "internal/bytealg.IndexString"], unfollowed := true, recurses := true, named := ["unicode/utf8.first", "unicode/utf8.acceptRanges", "internal/bytealg.MaxLen"], apart := false, laid := [("unicode/utf8.acceptRanges", laid_unicode_utf8_acceptRanges), ("unicode/utf8.first", laid_unicode_utf8_first)] }
def FnExactPathOnRingSaid : Prop := fnExactPathOnRingRow.holds Tryd.pinned (OpenSpec.ofChange fnExactPathOnRingSpec)

/-- ITS FALSE NEIGHBOUR: 'it returns false'. Refute it at one input. -/
def fnExactPathOnRingWrong : ChangeSpec := { name := "fnExactPathOnRing", fn := fun _ => fun
  | [d1, d2] => { results := [.lit (.bool false)], args := [d1, d2] }
  | _ => none }
def FnExactPathOnRingWrongFalsely : Prop := fnExactPathOnRingRow.holds Tryd.pinned (OpenSpec.ofChange fnExactPathOnRingWrong)

/-- 'laws.FnExactFirstShortest': WHATEVER THE INPUT: true; the input reads as it did. -/
def fnExactFirstShortestSpec : ChangeSpec := { name := "fnExactFirstShortest", fn := fun _ => fun
  | [d1, d2, d3] => { results := [.lit (.bool true)], args := [d1, d2, d3] }
  | _ => none }
def fnExactFirstShortestRow : OpenClaim := { program := "ytjgijaocinpkhaadoor", sum := "45baa5a0c74abb118fd900c59802a48e5867e4439158c837b536e3999949fa0c", func := "loop.example/g01271/laws.FnExactFirstShortest", spec := "fnExactFirstShortest", inPlace := ["internal/bytealg.IndexByteString", "internal/bytealg.IndexString"], unfollowed := true, recurses := true, named := ["unicode/utf8.first", "unicode/utf8.acceptRanges", "internal/bytealg.MaxLen"], apart := false, laid := [("unicode/utf8.acceptRanges", laid_unicode_utf8_acceptRanges), ("unicode/utf8.first", laid_unicode_utf8_first)] }
def FnExactFirstShortestSaid : Prop := fnExactFirstShortestRow.holds Tryd.pinned (OpenSpec.ofChange fnExactFirstShortestSpec)

/-- ITS FALSE NEIGHBOUR: 'it returns false'. Refute it at one input. -/
def fnExactFirstShortestWrong : ChangeSpec := { name := "fnExactFirstShortest", fn := fun _ => fun
  | [d1, d2, d3] => { results := [.lit (.bool false)], args := [d1, d2, d3] }
  | _ => none }
def FnExactFirstShortestWrongFalsely : Prop := fnExactFirstShortestRow.holds Tryd.pinned (OpenSpec.ofChange fnExactFirstShortestWrong)

/-- 'laws.FnExactFewestToExchange': WHATEVER THE INPUT: true; the input reads as it did. -/
def fnExactFewestToExchangeSpec : ChangeSpec := { name := "fnExactFewestToExchange", fn := fun _ => fun
  | [d1, d2, d3, d4] => { results := [.lit (.bool true)], args := [d1, d2, d3, d4] }
  | _ => none }
def fnExactFewestToExchangeRow : OpenClaim := { program := "ytjgijaocinpkhaadoor", sum := "45baa5a0c74abb118fd900c59802a48e5867e4439158c837b536e3999949fa0c", func := "loop.example/g01271/laws.FnExactFewestToExchange", spec := "fnExactFewestToExchange", inPlace := ["internal/abi.NoEscape", "internal/bytealg.MakeNoZero", "internal/bytealg.CountString", "internal/bytealg.IndexByteString", "internal/bytealg.IndexString"], unfollowed := true, recurses := true, named := ["internal/bytealg.MaxLen", "unicode/utf8.first", "unicode/utf8.acceptRanges"], apart := false, laid := [("unicode/utf8.acceptRanges", laid_unicode_utf8_acceptRanges), ("unicode/utf8.first", laid_unicode_utf8_first)] }
def FnExactFewestToExchangeSaid : Prop := fnExactFewestToExchangeRow.holds Tryd.pinned (OpenSpec.ofChange fnExactFewestToExchangeSpec)

/-- ITS FALSE NEIGHBOUR: 'it returns false'. Refute it at one input. -/
def fnExactFewestToExchangeWrong : ChangeSpec := { name := "fnExactFewestToExchange", fn := fun _ => fun
  | [d1, d2, d3, d4] => { results := [.lit (.bool false)], args := [d1, d2, d3, d4] }
  | _ => none }
def FnExactFewestToExchangeWrongFalsely : Prop := fnExactFewestToExchangeRow.holds Tryd.pinned (OpenSpec.ofChange fnExactFewestToExchangeWrong)

/- THE SECOND FORM. 'bulk': how many values and letters a reading holds, each counted each time it is reached (what is shared counts as often as it is met; a slice's spare places count too). A statement '..UptoSaid' is the law's where the arguments, and the package variables that the reading takes, are together of bulk at most 1048576: NARROWER than '..Said'. Prove '..Said' where nothing that the law and all that it calls make is longer than what came in: it says more and counts as full. Else prove '..UptoSaid'. A law counts once. -/
mutual
def uptoBulk {H : Type} : DataW H → Nat
  | .lit (.string bytes) => bytes.length + 1
  | .lit _ => 1
  | .nil => 1
  | .ptr d => uptoBulk d + 1
  | .slice elems spare => uptoBulkAll elems + uptoBulkAll spare + 1
  | .agg parts => uptoBulkAll parts + 1
  | .iface _ d => uptoBulk d + 1
  | .map entries => uptoBulkEntries entries + 1
  | .held _ => 1
def uptoBulkAll {H : Type} : List (DataW H) → Nat
  | [] => 0
  | d :: r => uptoBulk d + uptoBulkAll r
def uptoBulkEntries {H : Type} : List (Lit × DataW H) → Nat
  | [] => 0
  | x :: r => uptoBulkEntry x + uptoBulkEntries r
def uptoBulkEntry {H : Type} : Lit × DataW H → Nat
  | (.string bytes, d) => bytes.length + uptoBulk d + 1
  | (_, d) => uptoBulk d + 1
 end
def uptoSmall : (H : Type) → List (DataW H) → Bool := fun _ ds => decide (uptoBulkAll ds ≤ 1048576)
def OpenSpec.upto (s : _root_.Go.ChangeSpec) : _root_.Go.OpenSpec := { _root_.Go.OpenSpec.ofChange s with cond := some uptoSmall }

/-- 'laws.FnExactRingReached', WHERE WHAT IT READS IS OF BULK AT MOST 1048576: true; the input reads as it did. -/
def fnExactRingReachedUptoRow : OpenClaim := { program := "ytjgijaocinpkhaadoor", sum := "45baa5a0c74abb118fd900c59802a48e5867e4439158c837b536e3999949fa0c", func := "loop.example/g01271/laws.FnExactRingReached", spec := "fnExactRingReached", inPlace := ["internal/bytealg.IndexByteString", "internal/bytealg.IndexString"], unfollowed := true, recurses := true, named := ["unicode/utf8.first", "unicode/utf8.acceptRanges", "internal/bytealg.MaxLen"], apart := false, laid := [("unicode/utf8.acceptRanges", laid_unicode_utf8_acceptRanges), ("unicode/utf8.first", laid_unicode_utf8_first)], narrowed := true }
def FnExactRingReachedUptoSaid : Prop := fnExactRingReachedUptoRow.holds Tryd.pinned (OpenSpec.upto fnExactRingReachedSpec)

/-- 'laws.FnExactFarthestByRule', WHERE WHAT IT READS IS OF BULK AT MOST 1048576: true; the input reads as it did. -/
def fnExactFarthestByRuleUptoRow : OpenClaim := { program := "ytjgijaocinpkhaadoor", sum := "45baa5a0c74abb118fd900c59802a48e5867e4439158c837b536e3999949fa0c", func := "loop.example/g01271/laws.FnExactFarthestByRule", spec := "fnExactFarthestByRule", inPlace := ["internal/bytealg.IndexByteString", "internal/bytealg.IndexString"], unfollowed := true, recurses := true, named := ["unicode/utf8.first", "unicode/utf8.acceptRanges", "internal/bytealg.MaxLen"], apart := false, laid := [("unicode/utf8.acceptRanges", laid_unicode_utf8_acceptRanges), ("unicode/utf8.first", laid_unicode_utf8_first)], narrowed := true }
def FnExactFarthestByRuleUptoSaid : Prop := fnExactFarthestByRuleUptoRow.holds Tryd.pinned (OpenSpec.upto fnExactFarthestByRuleSpec)

/-- 'laws.FnExactCountReachedByRule', WHERE WHAT IT READS IS OF BULK AT MOST 1048576: true; the input reads as it did. -/
def fnExactCountReachedByRuleUptoRow : OpenClaim := { program := "ytjgijaocinpkhaadoor", sum := "45baa5a0c74abb118fd900c59802a48e5867e4439158c837b536e3999949fa0c", func := "loop.example/g01271/laws.FnExactCountReachedByRule", spec := "fnExactCountReachedByRule", inPlace := ["internal/bytealg.IndexByteString", "internal/bytealg.IndexString"], unfollowed := true, recurses := true, named := ["unicode/utf8.first", "unicode/utf8.acceptRanges", "internal/bytealg.MaxLen"], apart := false, laid := [("unicode/utf8.acceptRanges", laid_unicode_utf8_acceptRanges), ("unicode/utf8.first", laid_unicode_utf8_first)], narrowed := true }
def FnExactCountReachedByRuleUptoSaid : Prop := fnExactCountReachedByRuleUptoRow.holds Tryd.pinned (OpenSpec.upto fnExactCountReachedByRuleSpec)

/-- 'laws.FnExactReachByRule', WHERE WHAT IT READS IS OF BULK AT MOST 1048576: true; the input reads as it did. -/
def fnExactReachByRuleUptoRow : OpenClaim := { program := "ytjgijaocinpkhaadoor", sum := "45baa5a0c74abb118fd900c59802a48e5867e4439158c837b536e3999949fa0c", func := "loop.example/g01271/laws.FnExactReachByRule", spec := "fnExactReachByRule", inPlace := ["internal/bytealg.IndexByteString", "internal/bytealg.IndexString"], unfollowed := true, recurses := true, named := ["unicode/utf8.first", "unicode/utf8.acceptRanges", "internal/bytealg.MaxLen"], apart := false, laid := [("unicode/utf8.acceptRanges", laid_unicode_utf8_acceptRanges), ("unicode/utf8.first", laid_unicode_utf8_first)], narrowed := true }
def FnExactReachByRuleUptoSaid : Prop := fnExactReachByRuleUptoRow.holds Tryd.pinned (OpenSpec.upto fnExactReachByRuleSpec)

/-- 'laws.FnExactReachOnRing', WHERE WHAT IT READS IS OF BULK AT MOST 1048576: true; the input reads as it did. -/
def fnExactReachOnRingUptoRow : OpenClaim := { program := "ytjgijaocinpkhaadoor", sum := "45baa5a0c74abb118fd900c59802a48e5867e4439158c837b536e3999949fa0c", func := "loop.example/g01271/laws.FnExactReachOnRing", spec := "fnExactReachOnRing", inPlace := ["internal/bytealg.IndexByteString", "internal/bytealg.IndexString"], unfollowed := true, recurses := true, named := ["unicode/utf8.first", "unicode/utf8.acceptRanges", "internal/bytealg.MaxLen"], apart := false, laid := [("unicode/utf8.acceptRanges", laid_unicode_utf8_acceptRanges), ("unicode/utf8.first", laid_unicode_utf8_first)], narrowed := true }
def FnExactReachOnRingUptoSaid : Prop := fnExactReachOnRingUptoRow.holds Tryd.pinned (OpenSpec.upto fnExactReachOnRingSpec)

/-- 'laws.FnExactShortestOnRing', WHERE WHAT IT READS IS OF BULK AT MOST 1048576: true; the input reads as it did. -/
def fnExactShortestOnRingUptoRow : OpenClaim := { program := "ytjgijaocinpkhaadoor", sum := "45baa5a0c74abb118fd900c59802a48e5867e4439158c837b536e3999949fa0c", func := "loop.example/g01271/laws.FnExactShortestOnRing", spec := "fnExactShortestOnRing", inPlace := ["internal/bytealg.IndexByteString", "internal/bytealg.IndexString"], unfollowed := true, recurses := true, named := ["unicode/utf8.first", "unicode/utf8.acceptRanges", "internal/bytealg.MaxLen"], apart := false, laid := [("unicode/utf8.acceptRanges", laid_unicode_utf8_acceptRanges), ("unicode/utf8.first", laid_unicode_utf8_first)], narrowed := true }
def FnExactShortestOnRingUptoSaid : Prop := fnExactShortestOnRingUptoRow.holds Tryd.pinned (OpenSpec.upto fnExactShortestOnRingSpec)

/-- 'laws.FnExactComesAround', WHERE WHAT IT READS IS OF BULK AT MOST 1048576: true; the input reads as it did. -/
def fnExactComesAroundUptoRow : OpenClaim := { program := "ytjgijaocinpkhaadoor", sum := "45baa5a0c74abb118fd900c59802a48e5867e4439158c837b536e3999949fa0c", func := "loop.example/g01271/laws.FnExactComesAround", spec := "fnExactComesAround", inPlace := ["internal/bytealg.IndexByteString", "internal/bytealg.IndexString"], unfollowed := true, recurses := true, named := ["unicode/utf8.first", "unicode/utf8.acceptRanges", "internal/bytealg.MaxLen"], apart := false, laid := [("unicode/utf8.acceptRanges", laid_unicode_utf8_acceptRanges), ("unicode/utf8.first", laid_unicode_utf8_first)], narrowed := true }
def FnExactComesAroundUptoSaid : Prop := fnExactComesAroundUptoRow.holds Tryd.pinned (OpenSpec.upto fnExactComesAroundSpec)

/-- 'laws.FnExactShortestByRule', WHERE WHAT IT READS IS OF BULK AT MOST 1048576: true; the input reads as it did. -/
def fnExactShortestByRuleUptoRow : OpenClaim := { program := "ytjgijaocinpkhaadoor", sum := "45baa5a0c74abb118fd900c59802a48e5867e4439158c837b536e3999949fa0c", func := "loop.example/g01271/laws.FnExactShortestByRule", spec := "fnExactShortestByRule", inPlace := ["internal/bytealg.IndexByteString", "internal/bytealg.IndexString"], unfollowed := true, recurses := true, named := ["unicode/utf8.first", "unicode/utf8.acceptRanges", "internal/bytealg.MaxLen"], apart := false, laid := [("unicode/utf8.acceptRanges", laid_unicode_utf8_acceptRanges), ("unicode/utf8.first", laid_unicode_utf8_first)], narrowed := true }
def FnExactShortestByRuleUptoSaid : Prop := fnExactShortestByRuleUptoRow.holds Tryd.pinned (OpenSpec.upto fnExactShortestByRuleSpec)

/-- 'laws.FnExactBothWays', WHERE WHAT IT READS IS OF BULK AT MOST 1048576: true; the input reads as it did. -/
def fnExactBothWaysUptoRow : OpenClaim := { program := "ytjgijaocinpkhaadoor", sum := "45baa5a0c74abb118fd900c59802a48e5867e4439158c837b536e3999949fa0c", func := "loop.example/g01271/laws.FnExactBothWays", spec := "fnExactBothWays", inPlace := ["internal/bytealg.IndexByteString", "internal/bytealg.IndexString"], unfollowed := true, recurses := true, named := ["unicode/utf8.first", "unicode/utf8.acceptRanges", "internal/bytealg.MaxLen"], apart := false, laid := [("unicode/utf8.acceptRanges", laid_unicode_utf8_acceptRanges), ("unicode/utf8.first", laid_unicode_utf8_first)], narrowed := true }
def FnExactBothWaysUptoSaid : Prop := fnExactBothWaysUptoRow.holds Tryd.pinned (OpenSpec.upto fnExactBothWaysSpec)

/-- 'laws.FnExactPathOnRing', WHERE WHAT IT READS IS OF BULK AT MOST 1048576: true; the input reads as it did. -/
def fnExactPathOnRingUptoRow : OpenClaim := { program := "ytjgijaocinpkhaadoor", sum := "45baa5a0c74abb118fd900c59802a48e5867e4439158c837b536e3999949fa0c", func := "loop.example/g01271/laws.FnExactPathOnRing", spec := "fnExactPathOnRing", inPlace := ["internal/bytealg.IndexByteString", "internal/bytealg.IndexString"], unfollowed := true, recurses := true, named := ["unicode/utf8.first", "unicode/utf8.acceptRanges", "internal/bytealg.MaxLen"], apart := false, laid := [("unicode/utf8.acceptRanges", laid_unicode_utf8_acceptRanges), ("unicode/utf8.first", laid_unicode_utf8_first)], narrowed := true }
def FnExactPathOnRingUptoSaid : Prop := fnExactPathOnRingUptoRow.holds Tryd.pinned (OpenSpec.upto fnExactPathOnRingSpec)

/-- 'laws.FnExactFirstShortest', WHERE WHAT IT READS IS OF BULK AT MOST 1048576: true; the input reads as it did. -/
def fnExactFirstShortestUptoRow : OpenClaim := { program := "ytjgijaocinpkhaadoor", sum := "45baa5a0c74abb118fd900c59802a48e5867e4439158c837b536e3999949fa0c", func := "loop.example/g01271/laws.FnExactFirstShortest", spec := "fnExactFirstShortest", inPlace := ["internal/bytealg.IndexByteString", "internal/bytealg.IndexString"], unfollowed := true, recurses := true, named := ["unicode/utf8.first", "unicode/utf8.acceptRanges", "internal/bytealg.MaxLen"], apart := false, laid := [("unicode/utf8.acceptRanges", laid_unicode_utf8_acceptRanges), ("unicode/utf8.first", laid_unicode_utf8_first)], narrowed := true }
def FnExactFirstShortestUptoSaid : Prop := fnExactFirstShortestUptoRow.holds Tryd.pinned (OpenSpec.upto fnExactFirstShortestSpec)

/-- 'laws.FnExactFewestToExchange', WHERE WHAT IT READS IS OF BULK AT MOST 1048576: true; the input reads as it did. -/
def fnExactFewestToExchangeUptoRow : OpenClaim := { program := "ytjgijaocinpkhaadoor", sum := "45baa5a0c74abb118fd900c59802a48e5867e4439158c837b536e3999949fa0c", func := "loop.example/g01271/laws.FnExactFewestToExchange", spec := "fnExactFewestToExchange", inPlace := ["internal/abi.NoEscape", "internal/bytealg.MakeNoZero", "internal/bytealg.CountString", "internal/bytealg.IndexByteString", "internal/bytealg.IndexString"], unfollowed := true, recurses := true, named := ["internal/bytealg.MaxLen", "unicode/utf8.first", "unicode/utf8.acceptRanges"], apart := false, laid := [("unicode/utf8.acceptRanges", laid_unicode_utf8_acceptRanges), ("unicode/utf8.first", laid_unicode_utf8_first)], narrowed := true }
def FnExactFewestToExchangeUptoSaid : Prop := fnExactFewestToExchangeUptoRow.holds Tryd.pinned (OpenSpec.upto fnExactFewestToExchangeSpec)

end Rows
end Go.Proofs.YtjgijaocinpkhaaDoor
