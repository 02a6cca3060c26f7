/-
  NARROWER THAN 'FOR EVERY INPUT', by the rows' own cells (each row's printed sentence says how): FnExactIsWord: laid · FnExactIsLine: laid · FnExactIsRing: laid · FnExactTurnRing: laid · FnExactMeetsOfRing: laid · FnExactOtherWord: laid · FnExactLeastRing: laid · FnExactPairsToPass: laid · FnExactRunsOfWord: laid · FnExactCountOf: laid · FnExactWayToGo: laid.
  DERIVED. THE GIVEN ROWS OF THIS SEAT. 11 by the template 'for every input the law returns true; each argument reads behind the call as it read before'; 0 by the template 'total and deterministic' (their statements: YtoaajkpcefgofaaDoorTotals.lean).
  GIVEN WITH THE SEED: the statements are not yours to turn. If you find one false, say at which input.
  Laid BY PROGRAM, IN A SANDBOX (cutbox-rows.mjs): the forced cells as the released guide's own fill.sh prints them over the translation 89d65248ac3487f1… (all of the seat's roots in one cut). By AI agents, Wed Nov 11 2026. No macro, syntax, notation, axiom, sorry.
-/
import Derived.Test.YtoaajkpcefgofaaDoorChecked
import GoSem.PinnedTables
import GoSem.Claim
import GoSem.ClaimJoined
import GoSem.ClaimMapViews
import Derived.JoinedTies
import Derived.KernelRfl
namespace Go.Proofs.YtoaajkpcefgofaaDoor
/- THE CELL 'sum', in the pinned program and in every row, IS THE sha256 OF THE DUMP (.gsa) THAT YtoaajkpcefgofaaDoorProg.lean LOADS. Nothing in Lean hashes anything: it is a label: what it is worth is what the hold of that sum in a sandbox is worth. -/
noncomputable def Tryd.pinned : Pinned := { name := "ytoaajkpcefgofaadoor", sum := "89d65248ac3487f19cc230008fb281d2ea8f40bd6abce743046303ea6044e0f4", checked := Tryd.checked }
namespace Rows
def none {H : Type} : Left H := { results := [], args := [] }

/- WHAT THE LISTED PACKAGE-LEVEL VARIABLES READ AS WHEN THE CALL BEGINS. Each datum BY PROGRAM (the guide's laid-datum.mjs) off the statement by which the dump's own 'gosem.cut.vars' lays the variable. In a bare row this is a premise. The card (YtoaajkpcefgofaaDoorCards.lean) ties it to the program's text. -/
def laid_unicode_utf8_acceptRanges {H : Type} : DataW H := .agg [.agg [.lit (.int .u8 128), .lit (.int .u8 191)], .agg [.lit (.int .u8 160), .lit (.int .u8 191)], .agg [.lit (.int .u8 128), .lit (.int .u8 159)], .agg [.lit (.int .u8 144), .lit (.int .u8 191)], .agg [.lit (.int .u8 128), .lit (.int .u8 143)], .agg [.lit (.int .u8 0), .lit (.int .u8 0)], .agg [.lit (.int .u8 0), .lit (.int .u8 0)], .agg [.lit (.int .u8 0), .lit (.int .u8 0)], .agg [.lit (.int .u8 0), .lit (.int .u8 0)], .agg [.lit (.int .u8 0), .lit (.int .u8 0)], .agg [.lit (.int .u8 0), .lit (.int .u8 0)], .agg [.lit (.int .u8 0), .lit (.int .u8 0)], .agg [.lit (.int .u8 0), .lit (.int .u8 0)], .agg [.lit (.int .u8 0), .lit (.int .u8 0)], .agg [.lit (.int .u8 0), .lit (.int .u8 0)], .agg [.lit (.int .u8 0), .lit (.int .u8 0)]]
/-- One of Go's own tables, pinned by name: the form's constant. -/
def laid_unicode_utf8_first : DataW Unit := Go.Pinned.utf8First

/-- 'laws.FnExactIsWord': WHATEVER THE INPUT: true; the input reads as it did. -/
def fnExactIsWordSpec : ChangeSpec := { name := "fnExactIsWord", fn := fun _ => fun
  | [d] => { results := [.lit (.bool true)], args := [d] }
  | _ => none }
def fnExactIsWordRow : OpenClaim := { program := "ytoaajkpcefgofaadoor", sum := "89d65248ac3487f19cc230008fb281d2ea8f40bd6abce743046303ea6044e0f4", func := "loop.example/g01271/laws.FnExactIsWord", spec := "fnExactIsWord", inPlace := ["internal/bytealg.IndexByteString", "internal/bytealg.IndexString"], named := ["unicode/utf8.first", "unicode/utf8.acceptRanges", "internal/bytealg.MaxLen"], apart := false, laid := [("unicode/utf8.acceptRanges", laid_unicode_utf8_acceptRanges), ("unicode/utf8.first", laid_unicode_utf8_first)] }
def FnExactIsWordSaid : Prop := fnExactIsWordRow.holds Tryd.pinned (OpenSpec.ofChange fnExactIsWordSpec)

/-- ITS FALSE NEIGHBOUR: 'it returns false'. Refute it at one input. -/
def fnExactIsWordWrong : ChangeSpec := { name := "fnExactIsWord", fn := fun _ => fun
  | [d] => { results := [.lit (.bool false)], args := [d] }
  | _ => none }
def FnExactIsWordWrongFalsely : Prop := fnExactIsWordRow.holds Tryd.pinned (OpenSpec.ofChange fnExactIsWordWrong)

/-- 'laws.FnExactIsLine': WHATEVER THE INPUT: true; the input reads as it did. -/
def fnExactIsLineSpec : ChangeSpec := { name := "fnExactIsLine", fn := fun _ => fun
  | [d] => { results := [.lit (.bool true)], args := [d] }
  | _ => none }
def fnExactIsLineRow : OpenClaim := { program := "ytoaajkpcefgofaadoor", sum := "89d65248ac3487f19cc230008fb281d2ea8f40bd6abce743046303ea6044e0f4", func := "loop.example/g01271/laws.FnExactIsLine", spec := "fnExactIsLine", inPlace := ["internal/bytealg.IndexByteString", "internal/bytealg.IndexString"], named := ["unicode/utf8.first", "unicode/utf8.acceptRanges", "internal/bytealg.MaxLen"], apart := false, laid := [("unicode/utf8.acceptRanges", laid_unicode_utf8_acceptRanges), ("unicode/utf8.first", laid_unicode_utf8_first)] }
def FnExactIsLineSaid : Prop := fnExactIsLineRow.holds Tryd.pinned (OpenSpec.ofChange fnExactIsLineSpec)

/-- ITS FALSE NEIGHBOUR: 'it returns false'. Refute it at one input. -/
def fnExactIsLineWrong : ChangeSpec := { name := "fnExactIsLine", fn := fun _ => fun
  | [d] => { results := [.lit (.bool false)], args := [d] }
  | _ => none }
def FnExactIsLineWrongFalsely : Prop := fnExactIsLineRow.holds Tryd.pinned (OpenSpec.ofChange fnExactIsLineWrong)

/-- 'laws.FnExactIsRing': WHATEVER THE INPUT: true; the input reads as it did. -/
def fnExactIsRingSpec : ChangeSpec := { name := "fnExactIsRing", fn := fun _ => fun
  | [d] => { results := [.lit (.bool true)], args := [d] }
  | _ => none }
def fnExactIsRingRow : OpenClaim := { program := "ytoaajkpcefgofaadoor", sum := "89d65248ac3487f19cc230008fb281d2ea8f40bd6abce743046303ea6044e0f4", func := "loop.example/g01271/laws.FnExactIsRing", spec := "fnExactIsRing", inPlace := ["internal/bytealg.IndexByteString", "internal/bytealg.IndexString"], named := ["unicode/utf8.first", "unicode/utf8.acceptRanges", "internal/bytealg.MaxLen"], apart := false, laid := [("unicode/utf8.acceptRanges", laid_unicode_utf8_acceptRanges), ("unicode/utf8.first", laid_unicode_utf8_first)] }
def FnExactIsRingSaid : Prop := fnExactIsRingRow.holds Tryd.pinned (OpenSpec.ofChange fnExactIsRingSpec)

/-- ITS FALSE NEIGHBOUR: 'it returns false'. Refute it at one input. -/
def fnExactIsRingWrong : ChangeSpec := { name := "fnExactIsRing", fn := fun _ => fun
  | [d] => { results := [.lit (.bool false)], args := [d] }
  | _ => none }
def FnExactIsRingWrongFalsely : Prop := fnExactIsRingRow.holds Tryd.pinned (OpenSpec.ofChange fnExactIsRingWrong)

/-- 'laws.FnExactTurnRing': WHATEVER THE INPUT: true; the input reads as it did. -/
def fnExactTurnRingSpec : ChangeSpec := { name := "fnExactTurnRing", fn := fun _ => fun
  | [d1, d2] => { results := [.lit (.bool true)], args := [d1, d2] }
  | _ => none }
def fnExactTurnRingRow : OpenClaim := { program := "ytoaajkpcefgofaadoor", sum := "89d65248ac3487f19cc230008fb281d2ea8f40bd6abce743046303ea6044e0f4", func := "loop.example/g01271/laws.FnExactTurnRing", spec := "fnExactTurnRing", inPlace := ["internal/bytealg.IndexByteString", "internal/bytealg.IndexString"], named := ["unicode/utf8.first", "unicode/utf8.acceptRanges", "internal/bytealg.MaxLen"], apart := false, laid := [("unicode/utf8.acceptRanges", laid_unicode_utf8_acceptRanges), ("unicode/utf8.first", laid_unicode_utf8_first)] }
def FnExactTurnRingSaid : Prop := fnExactTurnRingRow.holds Tryd.pinned (OpenSpec.ofChange fnExactTurnRingSpec)

/-- ITS FALSE NEIGHBOUR: 'it returns false'. Refute it at one input. -/
def fnExactTurnRingWrong : ChangeSpec := { name := "fnExactTurnRing", fn := fun _ => fun
  | [d1, d2] => { results := [.lit (.bool false)], args := [d1, d2] }
  | _ => none }
def FnExactTurnRingWrongFalsely : Prop := fnExactTurnRingRow.holds Tryd.pinned (OpenSpec.ofChange fnExactTurnRingWrong)

/-- 'laws.FnExactMeetsOfRing': WHATEVER THE INPUT: true; the input reads as it did. -/
def fnExactMeetsOfRingSpec : ChangeSpec := { name := "fnExactMeetsOfRing", fn := fun _ => fun
  | [d] => { results := [.lit (.bool true)], args := [d] }
  | _ => none }
def fnExactMeetsOfRingRow : OpenClaim := { program := "ytoaajkpcefgofaadoor", sum := "89d65248ac3487f19cc230008fb281d2ea8f40bd6abce743046303ea6044e0f4", func := "loop.example/g01271/laws.FnExactMeetsOfRing", spec := "fnExactMeetsOfRing", inPlace := ["internal/bytealg.IndexByteString", "internal/bytealg.IndexString"], named := ["unicode/utf8.first", "unicode/utf8.acceptRanges", "internal/bytealg.MaxLen"], apart := false, laid := [("unicode/utf8.acceptRanges", laid_unicode_utf8_acceptRanges), ("unicode/utf8.first", laid_unicode_utf8_first)] }
def FnExactMeetsOfRingSaid : Prop := fnExactMeetsOfRingRow.holds Tryd.pinned (OpenSpec.ofChange fnExactMeetsOfRingSpec)

/-- ITS FALSE NEIGHBOUR: 'it returns false'. Refute it at one input. -/
def fnExactMeetsOfRingWrong : ChangeSpec := { name := "fnExactMeetsOfRing", fn := fun _ => fun
  | [d] => { results := [.lit (.bool false)], args := [d] }
  | _ => none }
def FnExactMeetsOfRingWrongFalsely : Prop := fnExactMeetsOfRingRow.holds Tryd.pinned (OpenSpec.ofChange fnExactMeetsOfRingWrong)

/-- 'laws.FnExactOtherWord': WHATEVER THE INPUT: true; the input reads as it did. -/
def fnExactOtherWordSpec : ChangeSpec := { name := "fnExactOtherWord", fn := fun _ => fun
  | [d] => { results := [.lit (.bool true)], args := [d] }
  | _ => none }
def fnExactOtherWordRow : OpenClaim := { program := "ytoaajkpcefgofaadoor", sum := "89d65248ac3487f19cc230008fb281d2ea8f40bd6abce743046303ea6044e0f4", func := "loop.example/g01271/laws.FnExactOtherWord", spec := "fnExactOtherWord", inPlace := ["internal/bytealg.IndexByteString", "internal/bytealg.IndexString"], named := ["unicode/utf8.first", "unicode/utf8.acceptRanges", "internal/bytealg.MaxLen"], apart := false, laid := [("unicode/utf8.acceptRanges", laid_unicode_utf8_acceptRanges), ("unicode/utf8.first", laid_unicode_utf8_first)] }
def FnExactOtherWordSaid : Prop := fnExactOtherWordRow.holds Tryd.pinned (OpenSpec.ofChange fnExactOtherWordSpec)

/-- ITS FALSE NEIGHBOUR: 'it returns false'. Refute it at one input. -/
def fnExactOtherWordWrong : ChangeSpec := { name := "fnExactOtherWord", fn := fun _ => fun
  | [d] => { results := [.lit (.bool false)], args := [d] }
  | _ => none }
def FnExactOtherWordWrongFalsely : Prop := fnExactOtherWordRow.holds Tryd.pinned (OpenSpec.ofChange fnExactOtherWordWrong)

/-- 'laws.FnExactLeastRing': WHATEVER THE INPUT: true; the input reads as it did. -/
def fnExactLeastRingSpec : ChangeSpec := { name := "fnExactLeastRing", fn := fun _ => fun
  | [d] => { results := [.lit (.bool true)], args := [d] }
  | _ => none }
def fnExactLeastRingRow : OpenClaim := { program := "ytoaajkpcefgofaadoor", sum := "89d65248ac3487f19cc230008fb281d2ea8f40bd6abce743046303ea6044e0f4", func := "loop.example/g01271/laws.FnExactLeastRing", spec := "fnExactLeastRing", inPlace := ["internal/bytealg.IndexByteString", "internal/bytealg.IndexString"], named := ["unicode/utf8.first", "unicode/utf8.acceptRanges", "internal/bytealg.MaxLen"], apart := false, laid := [("unicode/utf8.acceptRanges", laid_unicode_utf8_acceptRanges), ("unicode/utf8.first", laid_unicode_utf8_first)] }
def FnExactLeastRingSaid : Prop := fnExactLeastRingRow.holds Tryd.pinned (OpenSpec.ofChange fnExactLeastRingSpec)

/-- ITS FALSE NEIGHBOUR: 'it returns false'. Refute it at one input. -/
def fnExactLeastRingWrong : ChangeSpec := { name := "fnExactLeastRing", fn := fun _ => fun
  | [d] => { results := [.lit (.bool false)], args := [d] }
  | _ => none }
def FnExactLeastRingWrongFalsely : Prop := fnExactLeastRingRow.holds Tryd.pinned (OpenSpec.ofChange fnExactLeastRingWrong)

/-- 'laws.FnExactPairsToPass': WHATEVER THE INPUT: true; the input reads as it did. -/
def fnExactPairsToPassSpec : ChangeSpec := { name := "fnExactPairsToPass", fn := fun _ => fun
  | [d] => { results := [.lit (.bool true)], args := [d] }
  | _ => none }
def fnExactPairsToPassRow : OpenClaim := { program := "ytoaajkpcefgofaadoor", sum := "89d65248ac3487f19cc230008fb281d2ea8f40bd6abce743046303ea6044e0f4", func := "loop.example/g01271/laws.FnExactPairsToPass", spec := "fnExactPairsToPass", inPlace := ["internal/bytealg.IndexByteString", "internal/bytealg.IndexString"], named := ["unicode/utf8.first", "unicode/utf8.acceptRanges", "internal/bytealg.MaxLen"], apart := false, laid := [("unicode/utf8.acceptRanges", laid_unicode_utf8_acceptRanges), ("unicode/utf8.first", laid_unicode_utf8_first)] }
def FnExactPairsToPassSaid : Prop := fnExactPairsToPassRow.holds Tryd.pinned (OpenSpec.ofChange fnExactPairsToPassSpec)

/-- ITS FALSE NEIGHBOUR: 'it returns false'. Refute it at one input. -/
def fnExactPairsToPassWrong : ChangeSpec := { name := "fnExactPairsToPass", fn := fun _ => fun
  | [d] => { results := [.lit (.bool false)], args := [d] }
  | _ => none }
def FnExactPairsToPassWrongFalsely : Prop := fnExactPairsToPassRow.holds Tryd.pinned (OpenSpec.ofChange fnExactPairsToPassWrong)

/-- 'laws.FnExactRunsOfWord': WHATEVER THE INPUT: true; the input reads as it did. -/
def fnExactRunsOfWordSpec : ChangeSpec := { name := "fnExactRunsOfWord", fn := fun _ => fun
  | [d] => { results := [.lit (.bool true)], args := [d] }
  | _ => none }
def fnExactRunsOfWordRow : OpenClaim := { program := "ytoaajkpcefgofaadoor", sum := "89d65248ac3487f19cc230008fb281d2ea8f40bd6abce743046303ea6044e0f4", func := "loop.example/g01271/laws.FnExactRunsOfWord", spec := "fnExactRunsOfWord", inPlace := ["internal/bytealg.IndexByteString", "internal/bytealg.IndexString"], named := ["unicode/utf8.first", "unicode/utf8.acceptRanges", "internal/bytealg.MaxLen"], apart := false, laid := [("unicode/utf8.acceptRanges", laid_unicode_utf8_acceptRanges), ("unicode/utf8.first", laid_unicode_utf8_first)] }
def FnExactRunsOfWordSaid : Prop := fnExactRunsOfWordRow.holds Tryd.pinned (OpenSpec.ofChange fnExactRunsOfWordSpec)

/-- ITS FALSE NEIGHBOUR: 'it returns false'. Refute it at one input. -/
def fnExactRunsOfWordWrong : ChangeSpec := { name := "fnExactRunsOfWord", fn := fun _ => fun
  | [d] => { results := [.lit (.bool false)], args := [d] }
  | _ => none }
def FnExactRunsOfWordWrongFalsely : Prop := fnExactRunsOfWordRow.holds Tryd.pinned (OpenSpec.ofChange fnExactRunsOfWordWrong)

/-- 'laws.FnExactCountOf': WHATEVER THE INPUT: true; the input reads as it did. -/
def fnExactCountOfSpec : ChangeSpec := { name := "fnExactCountOf", fn := fun _ => fun
  | [d] => { results := [.lit (.bool true)], args := [d] }
  | _ => none }
def fnExactCountOfRow : OpenClaim := { program := "ytoaajkpcefgofaadoor", sum := "89d65248ac3487f19cc230008fb281d2ea8f40bd6abce743046303ea6044e0f4", func := "loop.example/g01271/laws.FnExactCountOf", spec := "fnExactCountOf", inPlace := ["internal/bytealg.IndexByteString", "internal/bytealg.IndexString", "internal/bytealg.CountString"], named := ["unicode/utf8.first", "unicode/utf8.acceptRanges", "internal/bytealg.MaxLen"], apart := false, laid := [("unicode/utf8.acceptRanges", laid_unicode_utf8_acceptRanges), ("unicode/utf8.first", laid_unicode_utf8_first)] }
def FnExactCountOfSaid : Prop := fnExactCountOfRow.holds Tryd.pinned (OpenSpec.ofChange fnExactCountOfSpec)

/-- ITS FALSE NEIGHBOUR: 'it returns false'. Refute it at one input. -/
def fnExactCountOfWrong : ChangeSpec := { name := "fnExactCountOf", fn := fun _ => fun
  | [d] => { results := [.lit (.bool false)], args := [d] }
  | _ => none }
def FnExactCountOfWrongFalsely : Prop := fnExactCountOfRow.holds Tryd.pinned (OpenSpec.ofChange fnExactCountOfWrong)

/-- 'laws.FnExactWayToGo': WHATEVER THE INPUT: true; the input reads as it did. -/
def fnExactWayToGoSpec : ChangeSpec := { name := "fnExactWayToGo", fn := fun _ => fun
  | [d] => { results := [.lit (.bool true)], args := [d] }
  | _ => none }
def fnExactWayToGoRow : OpenClaim := { program := "ytoaajkpcefgofaadoor", sum := "89d65248ac3487f19cc230008fb281d2ea8f40bd6abce743046303ea6044e0f4", func := "loop.example/g01271/laws.FnExactWayToGo", spec := "fnExactWayToGo", inPlace := ["internal/bytealg.IndexByteString", "internal/bytealg.IndexString", "internal/bytealg.CountString"], named := ["unicode/utf8.first", "unicode/utf8.acceptRanges", "internal/bytealg.MaxLen"], apart := false, laid := [("unicode/utf8.acceptRanges", laid_unicode_utf8_acceptRanges), ("unicode/utf8.first", laid_unicode_utf8_first)] }
def FnExactWayToGoSaid : Prop := fnExactWayToGoRow.holds Tryd.pinned (OpenSpec.ofChange fnExactWayToGoSpec)

/-- ITS FALSE NEIGHBOUR: 'it returns false'. Refute it at one input. -/
def fnExactWayToGoWrong : ChangeSpec := { name := "fnExactWayToGo", fn := fun _ => fun
  | [d] => { results := [.lit (.bool false)], args := [d] }
  | _ => none }
def FnExactWayToGoWrongFalsely : Prop := fnExactWayToGoRow.holds Tryd.pinned (OpenSpec.ofChange fnExactWayToGoWrong)

/- THE SECOND FORM. 'bulk': how many values and letters a reading holds, each counted each time it is reached (what is shared counts as often as it is met; a slice's spare places count too). A statement '..UptoSaid' is the law's where the arguments, and the package variables that the reading takes, are together of bulk at most 1048576: NARROWER than '..Said'. Prove '..Said' where nothing that the law and all that it calls make is longer than what came in: it says more and counts as full. Else prove '..UptoSaid'. A law counts once. -/
mutual
def uptoBulk {H : Type} : DataW H → Nat
  | .lit (.string bytes) => bytes.length + 1
  | .lit _ => 1
  | .nil => 1
  | .ptr d => uptoBulk d + 1
  | .slice elems spare => uptoBulkAll elems + uptoBulkAll spare + 1
  | .agg parts => uptoBulkAll parts + 1
  | .iface _ d => uptoBulk d + 1
  | .map entries => uptoBulkEntries entries + 1
  | .held _ => 1
def uptoBulkAll {H : Type} : List (DataW H) → Nat
  | [] => 0
  | d :: r => uptoBulk d + uptoBulkAll r
def uptoBulkEntries {H : Type} : List (Lit × DataW H) → Nat
  | [] => 0
  | x :: r => uptoBulkEntry x + uptoBulkEntries r
def uptoBulkEntry {H : Type} : Lit × DataW H → Nat
  | (.string bytes, d) => bytes.length + uptoBulk d + 1
  | (_, d) => uptoBulk d + 1
 end
def uptoSmall : (H : Type) → List (DataW H) → Bool := fun _ ds => decide (uptoBulkAll ds ≤ 1048576)
def OpenSpec.upto (s : _root_.Go.ChangeSpec) : _root_.Go.OpenSpec := { _root_.Go.OpenSpec.ofChange s with cond := some uptoSmall }

/-- 'laws.FnExactIsWord', WHERE WHAT IT READS IS OF BULK AT MOST 1048576: true; the input reads as it did. -/
def fnExactIsWordUptoRow : OpenClaim := { program := "ytoaajkpcefgofaadoor", sum := "89d65248ac3487f19cc230008fb281d2ea8f40bd6abce743046303ea6044e0f4", func := "loop.example/g01271/laws.FnExactIsWord", spec := "fnExactIsWord", inPlace := ["internal/bytealg.IndexByteString", "internal/bytealg.IndexString"], named := ["unicode/utf8.first", "unicode/utf8.acceptRanges", "internal/bytealg.MaxLen"], apart := false, laid := [("unicode/utf8.acceptRanges", laid_unicode_utf8_acceptRanges), ("unicode/utf8.first", laid_unicode_utf8_first)], narrowed := true }
def FnExactIsWordUptoSaid : Prop := fnExactIsWordUptoRow.holds Tryd.pinned (OpenSpec.upto fnExactIsWordSpec)

/-- 'laws.FnExactIsLine', WHERE WHAT IT READS IS OF BULK AT MOST 1048576: true; the input reads as it did. -/
def fnExactIsLineUptoRow : OpenClaim := { program := "ytoaajkpcefgofaadoor", sum := "89d65248ac3487f19cc230008fb281d2ea8f40bd6abce743046303ea6044e0f4", func := "loop.example/g01271/laws.FnExactIsLine", spec := "fnExactIsLine", inPlace := ["internal/bytealg.IndexByteString", "internal/bytealg.IndexString"], named := ["unicode/utf8.first", "unicode/utf8.acceptRanges", "internal/bytealg.MaxLen"], apart := false, laid := [("unicode/utf8.acceptRanges", laid_unicode_utf8_acceptRanges), ("unicode/utf8.first", laid_unicode_utf8_first)], narrowed := true }
def FnExactIsLineUptoSaid : Prop := fnExactIsLineUptoRow.holds Tryd.pinned (OpenSpec.upto fnExactIsLineSpec)

/-- 'laws.FnExactIsRing', WHERE WHAT IT READS IS OF BULK AT MOST 1048576: true; the input reads as it did. -/
def fnExactIsRingUptoRow : OpenClaim := { program := "ytoaajkpcefgofaadoor", sum := "89d65248ac3487f19cc230008fb281d2ea8f40bd6abce743046303ea6044e0f4", func := "loop.example/g01271/laws.FnExactIsRing", spec := "fnExactIsRing", inPlace := ["internal/bytealg.IndexByteString", "internal/bytealg.IndexString"], named := ["unicode/utf8.first", "unicode/utf8.acceptRanges", "internal/bytealg.MaxLen"], apart := false, laid := [("unicode/utf8.acceptRanges", laid_unicode_utf8_acceptRanges), ("unicode/utf8.first", laid_unicode_utf8_first)], narrowed := true }
def FnExactIsRingUptoSaid : Prop := fnExactIsRingUptoRow.holds Tryd.pinned (OpenSpec.upto fnExactIsRingSpec)

/-- 'laws.FnExactTurnRing', WHERE WHAT IT READS IS OF BULK AT MOST 1048576: true; the input reads as it did. -/
def fnExactTurnRingUptoRow : OpenClaim := { program := "ytoaajkpcefgofaadoor", sum := "89d65248ac3487f19cc230008fb281d2ea8f40bd6abce743046303ea6044e0f4", func := "loop.example/g01271/laws.FnExactTurnRing", spec := "fnExactTurnRing", inPlace := ["internal/bytealg.IndexByteString", "internal/bytealg.IndexString"], named := ["unicode/utf8.first", "unicode/utf8.acceptRanges", "internal/bytealg.MaxLen"], apart := false, laid := [("unicode/utf8.acceptRanges", laid_unicode_utf8_acceptRanges), ("unicode/utf8.first", laid_unicode_utf8_first)], narrowed := true }
def FnExactTurnRingUptoSaid : Prop := fnExactTurnRingUptoRow.holds Tryd.pinned (OpenSpec.upto fnExactTurnRingSpec)

/-- 'laws.FnExactMeetsOfRing', WHERE WHAT IT READS IS OF BULK AT MOST 1048576: true; the input reads as it did. -/
def fnExactMeetsOfRingUptoRow : OpenClaim := { program := "ytoaajkpcefgofaadoor", sum := "89d65248ac3487f19cc230008fb281d2ea8f40bd6abce743046303ea6044e0f4", func := "loop.example/g01271/laws.FnExactMeetsOfRing", spec := "fnExactMeetsOfRing", inPlace := ["internal/bytealg.IndexByteString", "internal/bytealg.IndexString"], named := ["unicode/utf8.first", "unicode/utf8.acceptRanges", "internal/bytealg.MaxLen"], apart := false, laid := [("unicode/utf8.acceptRanges", laid_unicode_utf8_acceptRanges), ("unicode/utf8.first", laid_unicode_utf8_first)], narrowed := true }
def FnExactMeetsOfRingUptoSaid : Prop := fnExactMeetsOfRingUptoRow.holds Tryd.pinned (OpenSpec.upto fnExactMeetsOfRingSpec)

/-- 'laws.FnExactOtherWord', WHERE WHAT IT READS IS OF BULK AT MOST 1048576: true; the input reads as it did. -/
def fnExactOtherWordUptoRow : OpenClaim := { program := "ytoaajkpcefgofaadoor", sum := "89d65248ac3487f19cc230008fb281d2ea8f40bd6abce743046303ea6044e0f4", func := "loop.example/g01271/laws.FnExactOtherWord", spec := "fnExactOtherWord", inPlace := ["internal/bytealg.IndexByteString", "internal/bytealg.IndexString"], named := ["unicode/utf8.first", "unicode/utf8.acceptRanges", "internal/bytealg.MaxLen"], apart := false, laid := [("unicode/utf8.acceptRanges", laid_unicode_utf8_acceptRanges), ("unicode/utf8.first", laid_unicode_utf8_first)], narrowed := true }
def FnExactOtherWordUptoSaid : Prop := fnExactOtherWordUptoRow.holds Tryd.pinned (OpenSpec.upto fnExactOtherWordSpec)

/-- 'laws.FnExactLeastRing', WHERE WHAT IT READS IS OF BULK AT MOST 1048576: true; the input reads as it did. -/
def fnExactLeastRingUptoRow : OpenClaim := { program := "ytoaajkpcefgofaadoor", sum := "89d65248ac3487f19cc230008fb281d2ea8f40bd6abce743046303ea6044e0f4", func := "loop.example/g01271/laws.FnExactLeastRing", spec := "fnExactLeastRing", inPlace := ["internal/bytealg.IndexByteString", "internal/bytealg.IndexString"], named := ["unicode/utf8.first", "unicode/utf8.acceptRanges", "internal/bytealg.MaxLen"], apart := false, laid := [("unicode/utf8.acceptRanges", laid_unicode_utf8_acceptRanges), ("unicode/utf8.first", laid_unicode_utf8_first)], narrowed := true }
def FnExactLeastRingUptoSaid : Prop := fnExactLeastRingUptoRow.holds Tryd.pinned (OpenSpec.upto fnExactLeastRingSpec)

/-- 'laws.FnExactPairsToPass', WHERE WHAT IT READS IS OF BULK AT MOST 1048576: true; the input reads as it did. -/
def fnExactPairsToPassUptoRow : OpenClaim := { program := "ytoaajkpcefgofaadoor", sum := "89d65248ac3487f19cc230008fb281d2ea8f40bd6abce743046303ea6044e0f4", func := "loop.example/g01271/laws.FnExactPairsToPass", spec := "fnExactPairsToPass", inPlace := ["internal/bytealg.IndexByteString", "internal/bytealg.IndexString"], named := ["unicode/utf8.first", "unicode/utf8.acceptRanges", "internal/bytealg.MaxLen"], apart := false, laid := [("unicode/utf8.acceptRanges", laid_unicode_utf8_acceptRanges), ("unicode/utf8.first", laid_unicode_utf8_first)], narrowed := true }
def FnExactPairsToPassUptoSaid : Prop := fnExactPairsToPassUptoRow.holds Tryd.pinned (OpenSpec.upto fnExactPairsToPassSpec)

/-- 'laws.FnExactRunsOfWord', WHERE WHAT IT READS IS OF BULK AT MOST 1048576: true; the input reads as it did. -/
def fnExactRunsOfWordUptoRow : OpenClaim := { program := "ytoaajkpcefgofaadoor", sum := "89d65248ac3487f19cc230008fb281d2ea8f40bd6abce743046303ea6044e0f4", func := "loop.example/g01271/laws.FnExactRunsOfWord", spec := "fnExactRunsOfWord", inPlace := ["internal/bytealg.IndexByteString", "internal/bytealg.IndexString"], named := ["unicode/utf8.first", "unicode/utf8.acceptRanges", "internal/bytealg.MaxLen"], apart := false, laid := [("unicode/utf8.acceptRanges", laid_unicode_utf8_acceptRanges), ("unicode/utf8.first", laid_unicode_utf8_first)], narrowed := true }
def FnExactRunsOfWordUptoSaid : Prop := fnExactRunsOfWordUptoRow.holds Tryd.pinned (OpenSpec.upto fnExactRunsOfWordSpec)

/-- 'laws.FnExactCountOf', WHERE WHAT IT READS IS OF BULK AT MOST 1048576: true; the input reads as it did. -/
def fnExactCountOfUptoRow : OpenClaim := { program := "ytoaajkpcefgofaadoor", sum := "89d65248ac3487f19cc230008fb281d2ea8f40bd6abce743046303ea6044e0f4", func := "loop.example/g01271/laws.FnExactCountOf", spec := "fnExactCountOf", inPlace := ["internal/bytealg.IndexByteString", "internal/bytealg.IndexString", "internal/bytealg.CountString"], named := ["unicode/utf8.first", "unicode/utf8.acceptRanges", "internal/bytealg.MaxLen"], apart := false, laid := [("unicode/utf8.acceptRanges", laid_unicode_utf8_acceptRanges), ("unicode/utf8.first", laid_unicode_utf8_first)], narrowed := true }
def FnExactCountOfUptoSaid : Prop := fnExactCountOfUptoRow.holds Tryd.pinned (OpenSpec.upto fnExactCountOfSpec)

/-- 'laws.FnExactWayToGo', WHERE WHAT IT READS IS OF BULK AT MOST 1048576: true; the input reads as it did. -/
def fnExactWayToGoUptoRow : OpenClaim := { program := "ytoaajkpcefgofaadoor", sum := "89d65248ac3487f19cc230008fb281d2ea8f40bd6abce743046303ea6044e0f4", func := "loop.example/g01271/laws.FnExactWayToGo", spec := "fnExactWayToGo", inPlace := ["internal/bytealg.IndexByteString", "internal/bytealg.IndexString", "internal/bytealg.CountString"], named := ["unicode/utf8.first", "unicode/utf8.acceptRanges", "internal/bytealg.MaxLen"], apart := false, laid := [("unicode/utf8.acceptRanges", laid_unicode_utf8_acceptRanges), ("unicode/utf8.first", laid_unicode_utf8_first)], narrowed := true }
def FnExactWayToGoUptoSaid : Prop := fnExactWayToGoUptoRow.holds Tryd.pinned (OpenSpec.upto fnExactWayToGoSpec)

end Rows
end Go.Proofs.YtoaajkpcefgofaaDoor
