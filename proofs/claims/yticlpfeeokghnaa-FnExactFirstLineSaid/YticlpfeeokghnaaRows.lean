/-
  No cell of these rows narrows 'for every input' (looked for: loops, veiled, ifaces, maps, wideKeys, modest, calm, conditions, laid).
  DERIVED. THE GIVEN ROWS OF THIS SEAT. 9 by the template 'for every input the law returns true; each argument reads behind the call as it read before'; 0 by the template 'total and deterministic' (their statements: YticlpfeeokghnaaTotals.lean).
  GIVEN WITH THE SEED: the statements are not yours to turn. If you find one false, say at which input.
  Laid BY PROGRAM, IN A SANDBOX (cutbox-rows.mjs): the forced cells as the released guide's own fill.sh prints them over the translation 2c885f0c758fbee0… (all of the seat's roots in one cut). By AI agents, Wed Nov 11 2026. No macro, syntax, notation, axiom, sorry.
-/
import Derived.Test.YticlpfeeokghnaaChecked
import GoSem.Claim
import GoSem.ClaimJoined
import GoSem.ClaimMapViews
import Derived.JoinedTies
import Derived.KernelRfl
namespace Go.Proofs.Yticlpfeeokghnaa
/- THE CELL 'sum', in the pinned program and in every row, IS THE sha256 OF THE DUMP (.gsa) THAT YticlpfeeokghnaaProg.lean LOADS. Nothing in Lean hashes anything: it is a label: what it is worth is what the hold of that sum in a sandbox is worth. -/
noncomputable def Try.pinned : Pinned := { name := "yticlpfeeokghnaa", sum := "2c885f0c758fbee069a3fc4479f996493e73c50b43d80fc336fe968a92882753", checked := Try.checked }
namespace Rows
def none {H : Type} : Left H := { results := [], args := [] }

/-- 'laws.FnExactConstants': WHATEVER THE INPUT: true; the input reads as it did. -/
def fnExactConstantsSpec : ChangeSpec := { name := "fnExactConstants", fn := fun _ => fun
  | [] => { results := [.lit (.bool true)], args := [] }
  | _ => none }
def fnExactConstantsRow : OpenClaim := { program := "yticlpfeeokghnaa", sum := "2c885f0c758fbee069a3fc4479f996493e73c50b43d80fc336fe968a92882753", func := "loop.example/g01271/laws.FnExactConstants", spec := "fnExactConstants", apart := false }
def FnExactConstantsSaid : Prop := fnExactConstantsRow.holds Try.pinned (OpenSpec.ofChange fnExactConstantsSpec)

/-- ITS FALSE NEIGHBOUR: 'it returns false'. Refute it at one input. -/
def fnExactConstantsWrong : ChangeSpec := { name := "fnExactConstants", fn := fun _ => fun
  | [] => { results := [.lit (.bool false)], args := [] }
  | _ => none }
def FnExactConstantsWrongFalsely : Prop := fnExactConstantsRow.holds Try.pinned (OpenSpec.ofChange fnExactConstantsWrong)

/-- 'laws.FnExactBoardLength': WHATEVER THE INPUT: true; the input reads as it did. -/
def fnExactBoardLengthSpec : ChangeSpec := { name := "fnExactBoardLength", fn := fun _ => fun
  | [d1, d2] => { results := [.lit (.bool true)], args := [d1, d2] }
  | _ => none }
def fnExactBoardLengthRow : OpenClaim := { program := "yticlpfeeokghnaa", sum := "2c885f0c758fbee069a3fc4479f996493e73c50b43d80fc336fe968a92882753", func := "loop.example/g01271/laws.FnExactBoardLength", spec := "fnExactBoardLength", apart := false }
def FnExactBoardLengthSaid : Prop := fnExactBoardLengthRow.holds Try.pinned (OpenSpec.ofChange fnExactBoardLengthSpec)

/-- ITS FALSE NEIGHBOUR: 'it returns false'. Refute it at one input. -/
def fnExactBoardLengthWrong : ChangeSpec := { name := "fnExactBoardLength", fn := fun _ => fun
  | [d1, d2] => { results := [.lit (.bool false)], args := [d1, d2] }
  | _ => none }
def FnExactBoardLengthWrongFalsely : Prop := fnExactBoardLengthRow.holds Try.pinned (OpenSpec.ofChange fnExactBoardLengthWrong)

/-- 'laws.FnExactExchangeMoves': WHATEVER THE INPUT: true; the input reads as it did. -/
def fnExactExchangeMovesSpec : ChangeSpec := { name := "fnExactExchangeMoves", fn := fun _ => fun
  | [d1, d2] => { results := [.lit (.bool true)], args := [d1, d2] }
  | _ => none }
def fnExactExchangeMovesRow : OpenClaim := { program := "yticlpfeeokghnaa", sum := "2c885f0c758fbee069a3fc4479f996493e73c50b43d80fc336fe968a92882753", func := "loop.example/g01271/laws.FnExactExchangeMoves", spec := "fnExactExchangeMoves", apart := false }
def FnExactExchangeMovesSaid : Prop := fnExactExchangeMovesRow.holds Try.pinned (OpenSpec.ofChange fnExactExchangeMovesSpec)

/-- ITS FALSE NEIGHBOUR: 'it returns false'. Refute it at one input. -/
def fnExactExchangeMovesWrong : ChangeSpec := { name := "fnExactExchangeMoves", fn := fun _ => fun
  | [d1, d2] => { results := [.lit (.bool false)], args := [d1, d2] }
  | _ => none }
def FnExactExchangeMovesWrongFalsely : Prop := fnExactExchangeMovesRow.holds Try.pinned (OpenSpec.ofChange fnExactExchangeMovesWrong)

/-- 'laws.FnExactJumpsOfExchange': WHATEVER THE INPUT: true; the input reads as it did. -/
def fnExactJumpsOfExchangeSpec : ChangeSpec := { name := "fnExactJumpsOfExchange", fn := fun _ => fun
  | [d1, d2] => { results := [.lit (.bool true)], args := [d1, d2] }
  | _ => none }
def fnExactJumpsOfExchangeRow : OpenClaim := { program := "yticlpfeeokghnaa", sum := "2c885f0c758fbee069a3fc4479f996493e73c50b43d80fc336fe968a92882753", func := "loop.example/g01271/laws.FnExactJumpsOfExchange", spec := "fnExactJumpsOfExchange", apart := false }
def FnExactJumpsOfExchangeSaid : Prop := fnExactJumpsOfExchangeRow.holds Try.pinned (OpenSpec.ofChange fnExactJumpsOfExchangeSpec)

/-- ITS FALSE NEIGHBOUR: 'it returns false'. Refute it at one input. -/
def fnExactJumpsOfExchangeWrong : ChangeSpec := { name := "fnExactJumpsOfExchange", fn := fun _ => fun
  | [d1, d2] => { results := [.lit (.bool false)], args := [d1, d2] }
  | _ => none }
def FnExactJumpsOfExchangeWrongFalsely : Prop := fnExactJumpsOfExchangeRow.holds Try.pinned (OpenSpec.ofChange fnExactJumpsOfExchangeWrong)

/-- 'laws.FnExactExchangeLength': WHATEVER THE INPUT: true; the input reads as it did. -/
def fnExactExchangeLengthSpec : ChangeSpec := { name := "fnExactExchangeLength", fn := fun _ => fun
  | [d1, d2, d3] => { results := [.lit (.bool true)], args := [d1, d2, d3] }
  | _ => none }
def fnExactExchangeLengthRow : OpenClaim := { program := "yticlpfeeokghnaa", sum := "2c885f0c758fbee069a3fc4479f996493e73c50b43d80fc336fe968a92882753", func := "loop.example/g01271/laws.FnExactExchangeLength", spec := "fnExactExchangeLength", apart := false }
def FnExactExchangeLengthSaid : Prop := fnExactExchangeLengthRow.holds Try.pinned (OpenSpec.ofChange fnExactExchangeLengthSpec)

/-- ITS FALSE NEIGHBOUR: 'it returns false'. Refute it at one input. -/
def fnExactExchangeLengthWrong : ChangeSpec := { name := "fnExactExchangeLength", fn := fun _ => fun
  | [d1, d2, d3] => { results := [.lit (.bool false)], args := [d1, d2, d3] }
  | _ => none }
def FnExactExchangeLengthWrongFalsely : Prop := fnExactExchangeLengthRow.holds Try.pinned (OpenSpec.ofChange fnExactExchangeLengthWrong)

/-- 'laws.FnExactRuleText': WHATEVER THE INPUT: true; the input reads as it did. -/
def fnExactRuleTextSpec : ChangeSpec := { name := "fnExactRuleText", fn := fun _ => fun
  | [d] => { results := [.lit (.bool true)], args := [d] }
  | _ => none }
def fnExactRuleTextRow : OpenClaim := { program := "yticlpfeeokghnaa", sum := "2c885f0c758fbee069a3fc4479f996493e73c50b43d80fc336fe968a92882753", func := "loop.example/g01271/laws.FnExactRuleText", spec := "fnExactRuleText", apart := false }
def FnExactRuleTextSaid : Prop := fnExactRuleTextRow.holds Try.pinned (OpenSpec.ofChange fnExactRuleTextSpec)

/-- ITS FALSE NEIGHBOUR: 'it returns false'. Refute it at one input. -/
def fnExactRuleTextWrong : ChangeSpec := { name := "fnExactRuleText", fn := fun _ => fun
  | [d] => { results := [.lit (.bool false)], args := [d] }
  | _ => none }
def FnExactRuleTextWrongFalsely : Prop := fnExactRuleTextRow.holds Try.pinned (OpenSpec.ofChange fnExactRuleTextWrong)

/-- 'laws.FnExactSlidesOfExchange': WHATEVER THE INPUT: true; the input reads as it did. -/
def fnExactSlidesOfExchangeSpec : ChangeSpec := { name := "fnExactSlidesOfExchange", fn := fun _ => fun
  | [d1, d2, d3] => { results := [.lit (.bool true)], args := [d1, d2, d3] }
  | _ => none }
def fnExactSlidesOfExchangeRow : OpenClaim := { program := "yticlpfeeokghnaa", sum := "2c885f0c758fbee069a3fc4479f996493e73c50b43d80fc336fe968a92882753", func := "loop.example/g01271/laws.FnExactSlidesOfExchange", spec := "fnExactSlidesOfExchange", apart := false }
def FnExactSlidesOfExchangeSaid : Prop := fnExactSlidesOfExchangeRow.holds Try.pinned (OpenSpec.ofChange fnExactSlidesOfExchangeSpec)

/-- ITS FALSE NEIGHBOUR: 'it returns false'. Refute it at one input. -/
def fnExactSlidesOfExchangeWrong : ChangeSpec := { name := "fnExactSlidesOfExchange", fn := fun _ => fun
  | [d1, d2, d3] => { results := [.lit (.bool false)], args := [d1, d2, d3] }
  | _ => none }
def FnExactSlidesOfExchangeWrongFalsely : Prop := fnExactSlidesOfExchangeRow.holds Try.pinned (OpenSpec.ofChange fnExactSlidesOfExchangeWrong)

/-- 'laws.FnExactCountLines': WHATEVER THE INPUT: true; the input reads as it did. -/
def fnExactCountLinesSpec : ChangeSpec := { name := "fnExactCountLines", fn := fun _ => fun
  | [d1, d2, d3] => { results := [.lit (.bool true)], args := [d1, d2, d3] }
  | _ => none }
def fnExactCountLinesRow : OpenClaim := { program := "yticlpfeeokghnaa", sum := "2c885f0c758fbee069a3fc4479f996493e73c50b43d80fc336fe968a92882753", func := "loop.example/g01271/laws.FnExactCountLines", spec := "fnExactCountLines", apart := false }
def FnExactCountLinesSaid : Prop := fnExactCountLinesRow.holds Try.pinned (OpenSpec.ofChange fnExactCountLinesSpec)

/-- ITS FALSE NEIGHBOUR: 'it returns false'. Refute it at one input. -/
def fnExactCountLinesWrong : ChangeSpec := { name := "fnExactCountLines", fn := fun _ => fun
  | [d1, d2, d3] => { results := [.lit (.bool false)], args := [d1, d2, d3] }
  | _ => none }
def FnExactCountLinesWrongFalsely : Prop := fnExactCountLinesRow.holds Try.pinned (OpenSpec.ofChange fnExactCountLinesWrong)

/-- 'laws.FnExactFirstLine': WHATEVER THE INPUT: true; the input reads as it did. -/
def fnExactFirstLineSpec : ChangeSpec := { name := "fnExactFirstLine", fn := fun _ => fun
  | [d1, d2, d3] => { results := [.lit (.bool true)], args := [d1, d2, d3] }
  | _ => none }
def fnExactFirstLineRow : OpenClaim := { program := "yticlpfeeokghnaa", sum := "2c885f0c758fbee069a3fc4479f996493e73c50b43d80fc336fe968a92882753", func := "loop.example/g01271/laws.FnExactFirstLine", spec := "fnExactFirstLine", inPlace := ["internal/abi.NoEscape", "internal/bytealg.MakeNoZero"], apart := false }
def FnExactFirstLineSaid : Prop := fnExactFirstLineRow.holds Try.pinned (OpenSpec.ofChange fnExactFirstLineSpec)

/-- ITS FALSE NEIGHBOUR: 'it returns false'. Refute it at one input. -/
def fnExactFirstLineWrong : ChangeSpec := { name := "fnExactFirstLine", fn := fun _ => fun
  | [d1, d2, d3] => { results := [.lit (.bool false)], args := [d1, d2, d3] }
  | _ => none }
def FnExactFirstLineWrongFalsely : Prop := fnExactFirstLineRow.holds Try.pinned (OpenSpec.ofChange fnExactFirstLineWrong)

/- THE SECOND FORM. 'bulk': how many values and letters a reading holds, each counted each time it is reached (what is shared counts as often as it is met; a slice's spare places count too). A statement '..UptoSaid' is the law's where the arguments, and the package variables that the reading takes, are together of bulk at most 1048576: NARROWER than '..Said'. Prove '..Said' where nothing that the law and all that it calls make is longer than what came in: it says more and counts as full. Else prove '..UptoSaid'. A law counts once. -/
mutual
def uptoBulk {H : Type} : DataW H → Nat
  | .lit (.string bytes) => bytes.length + 1
  | .lit _ => 1
  | .nil => 1
  | .ptr d => uptoBulk d + 1
  | .slice elems spare => uptoBulkAll elems + uptoBulkAll spare + 1
  | .agg parts => uptoBulkAll parts + 1
  | .iface _ d => uptoBulk d + 1
  | .map entries => uptoBulkEntries entries + 1
  | .held _ => 1
def uptoBulkAll {H : Type} : List (DataW H) → Nat
  | [] => 0
  | d :: r => uptoBulk d + uptoBulkAll r
def uptoBulkEntries {H : Type} : List (Lit × DataW H) → Nat
  | [] => 0
  | x :: r => uptoBulkEntry x + uptoBulkEntries r
def uptoBulkEntry {H : Type} : Lit × DataW H → Nat
  | (.string bytes, d) => bytes.length + uptoBulk d + 1
  | (_, d) => uptoBulk d + 1
 end
def uptoSmall : (H : Type) → List (DataW H) → Bool := fun _ ds => decide (uptoBulkAll ds ≤ 1048576)
def OpenSpec.upto (s : _root_.Go.ChangeSpec) : _root_.Go.OpenSpec := { _root_.Go.OpenSpec.ofChange s with cond := some uptoSmall }

/-- 'laws.FnExactConstants', WHERE WHAT IT READS IS OF BULK AT MOST 1048576: true; the input reads as it did. -/
def fnExactConstantsUptoRow : OpenClaim := { program := "yticlpfeeokghnaa", sum := "2c885f0c758fbee069a3fc4479f996493e73c50b43d80fc336fe968a92882753", func := "loop.example/g01271/laws.FnExactConstants", spec := "fnExactConstants", apart := false, narrowed := true }
def FnExactConstantsUptoSaid : Prop := fnExactConstantsUptoRow.holds Try.pinned (OpenSpec.upto fnExactConstantsSpec)

/-- 'laws.FnExactBoardLength', WHERE WHAT IT READS IS OF BULK AT MOST 1048576: true; the input reads as it did. -/
def fnExactBoardLengthUptoRow : OpenClaim := { program := "yticlpfeeokghnaa", sum := "2c885f0c758fbee069a3fc4479f996493e73c50b43d80fc336fe968a92882753", func := "loop.example/g01271/laws.FnExactBoardLength", spec := "fnExactBoardLength", apart := false, narrowed := true }
def FnExactBoardLengthUptoSaid : Prop := fnExactBoardLengthUptoRow.holds Try.pinned (OpenSpec.upto fnExactBoardLengthSpec)

/-- 'laws.FnExactExchangeMoves', WHERE WHAT IT READS IS OF BULK AT MOST 1048576: true; the input reads as it did. -/
def fnExactExchangeMovesUptoRow : OpenClaim := { program := "yticlpfeeokghnaa", sum := "2c885f0c758fbee069a3fc4479f996493e73c50b43d80fc336fe968a92882753", func := "loop.example/g01271/laws.FnExactExchangeMoves", spec := "fnExactExchangeMoves", apart := false, narrowed := true }
def FnExactExchangeMovesUptoSaid : Prop := fnExactExchangeMovesUptoRow.holds Try.pinned (OpenSpec.upto fnExactExchangeMovesSpec)

/-- 'laws.FnExactJumpsOfExchange', WHERE WHAT IT READS IS OF BULK AT MOST 1048576: true; the input reads as it did. -/
def fnExactJumpsOfExchangeUptoRow : OpenClaim := { program := "yticlpfeeokghnaa", sum := "2c885f0c758fbee069a3fc4479f996493e73c50b43d80fc336fe968a92882753", func := "loop.example/g01271/laws.FnExactJumpsOfExchange", spec := "fnExactJumpsOfExchange", apart := false, narrowed := true }
def FnExactJumpsOfExchangeUptoSaid : Prop := fnExactJumpsOfExchangeUptoRow.holds Try.pinned (OpenSpec.upto fnExactJumpsOfExchangeSpec)

/-- 'laws.FnExactExchangeLength', WHERE WHAT IT READS IS OF BULK AT MOST 1048576: true; the input reads as it did. -/
def fnExactExchangeLengthUptoRow : OpenClaim := { program := "yticlpfeeokghnaa", sum := "2c885f0c758fbee069a3fc4479f996493e73c50b43d80fc336fe968a92882753", func := "loop.example/g01271/laws.FnExactExchangeLength", spec := "fnExactExchangeLength", apart := false, narrowed := true }
def FnExactExchangeLengthUptoSaid : Prop := fnExactExchangeLengthUptoRow.holds Try.pinned (OpenSpec.upto fnExactExchangeLengthSpec)

/-- 'laws.FnExactRuleText', WHERE WHAT IT READS IS OF BULK AT MOST 1048576: true; the input reads as it did. -/
def fnExactRuleTextUptoRow : OpenClaim := { program := "yticlpfeeokghnaa", sum := "2c885f0c758fbee069a3fc4479f996493e73c50b43d80fc336fe968a92882753", func := "loop.example/g01271/laws.FnExactRuleText", spec := "fnExactRuleText", apart := false, narrowed := true }
def FnExactRuleTextUptoSaid : Prop := fnExactRuleTextUptoRow.holds Try.pinned (OpenSpec.upto fnExactRuleTextSpec)

/-- 'laws.FnExactSlidesOfExchange', WHERE WHAT IT READS IS OF BULK AT MOST 1048576: true; the input reads as it did. -/
def fnExactSlidesOfExchangeUptoRow : OpenClaim := { program := "yticlpfeeokghnaa", sum := "2c885f0c758fbee069a3fc4479f996493e73c50b43d80fc336fe968a92882753", func := "loop.example/g01271/laws.FnExactSlidesOfExchange", spec := "fnExactSlidesOfExchange", apart := false, narrowed := true }
def FnExactSlidesOfExchangeUptoSaid : Prop := fnExactSlidesOfExchangeUptoRow.holds Try.pinned (OpenSpec.upto fnExactSlidesOfExchangeSpec)

/-- 'laws.FnExactCountLines', WHERE WHAT IT READS IS OF BULK AT MOST 1048576: true; the input reads as it did. -/
def fnExactCountLinesUptoRow : OpenClaim := { program := "yticlpfeeokghnaa", sum := "2c885f0c758fbee069a3fc4479f996493e73c50b43d80fc336fe968a92882753", func := "loop.example/g01271/laws.FnExactCountLines", spec := "fnExactCountLines", apart := false, narrowed := true }
def FnExactCountLinesUptoSaid : Prop := fnExactCountLinesUptoRow.holds Try.pinned (OpenSpec.upto fnExactCountLinesSpec)

/-- 'laws.FnExactFirstLine', WHERE WHAT IT READS IS OF BULK AT MOST 1048576: true; the input reads as it did. -/
def fnExactFirstLineUptoRow : OpenClaim := { program := "yticlpfeeokghnaa", sum := "2c885f0c758fbee069a3fc4479f996493e73c50b43d80fc336fe968a92882753", func := "loop.example/g01271/laws.FnExactFirstLine", spec := "fnExactFirstLine", inPlace := ["internal/abi.NoEscape", "internal/bytealg.MakeNoZero"], apart := false, narrowed := true }
def FnExactFirstLineUptoSaid : Prop := fnExactFirstLineUptoRow.holds Try.pinned (OpenSpec.upto fnExactFirstLineSpec)

end Rows
end Go.Proofs.Yticlpfeeokghnaa
