/-
  No cell of these rows narrows 'for every input' (looked for: loops, veiled, ifaces, maps, wideKeys, modest, calm, conditions, laid).
  DERIVED. THE GIVEN ROWS OF THIS SEAT. 6 by the template 'for every input the law returns true; each argument reads behind the call as it read before'; 0 by the template 'total and deterministic' (their statements: YtpelhinjoambfaaTotals.lean).
  GIVEN WITH THE SEED: the statements are not yours to turn. If you find one false, say at which input.
  Laid BY PROGRAM, IN A SANDBOX (cutbox-rows.mjs): the forced cells as the released guide's own fill.sh prints them over the translation fe18b0734531c0ed… (all of the seat's roots in one cut). By AI agents, Wed Nov 11 2026. No macro, syntax, notation, axiom, sorry.
-/
import Derived.Test.YtpelhinjoambfaaChecked
import GoSem.Claim
import GoSem.ClaimJoined
import GoSem.ClaimMapViews
import Derived.JoinedTies
import Derived.KernelRfl
namespace Go.Proofs.Ytpelhinjoambfaa
/- THE CELL 'sum', in the pinned program and in every row, IS THE sha256 OF THE DUMP (.gsa) THAT YtpelhinjoambfaaProg.lean LOADS. Nothing in Lean hashes anything: it is a label: what it is worth is what the hold of that sum in a sandbox is worth. -/
noncomputable def Try.pinned : Pinned := { name := "ytpelhinjoambfaa", sum := "fe18b0734531c0edce3af1c9bf581060da7d70b8e55b107224820fd3ede9d97a", checked := Try.checked }
namespace Rows
def none {H : Type} : Left H := { results := [], args := [] }

/-- 'laws.FnExactLineOfRank': WHATEVER THE INPUT: true; the input reads as it did. -/
def fnExactLineOfRankSpec : ChangeSpec := { name := "fnExactLineOfRank", fn := fun _ => fun
  | [d1, d2, d3, d4] => { results := [.lit (.bool true)], args := [d1, d2, d3, d4] }
  | _ => none }
def fnExactLineOfRankRow : OpenClaim := { program := "ytpelhinjoambfaa", sum := "fe18b0734531c0edce3af1c9bf581060da7d70b8e55b107224820fd3ede9d97a", func := "loop.example/g01271/laws.FnExactLineOfRank", spec := "fnExactLineOfRank", apart := false }
def FnExactLineOfRankSaid : Prop := fnExactLineOfRankRow.holds Try.pinned (OpenSpec.ofChange fnExactLineOfRankSpec)

/-- ITS FALSE NEIGHBOUR: 'it returns false'. Refute it at one input. -/
def fnExactLineOfRankWrong : ChangeSpec := { name := "fnExactLineOfRank", fn := fun _ => fun
  | [d1, d2, d3, d4] => { results := [.lit (.bool false)], args := [d1, d2, d3, d4] }
  | _ => none }
def FnExactLineOfRankWrongFalsely : Prop := fnExactLineOfRankRow.holds Try.pinned (OpenSpec.ofChange fnExactLineOfRankWrong)

/-- 'laws.FnExactCountRings': WHATEVER THE INPUT: true; the input reads as it did. -/
def fnExactCountRingsSpec : ChangeSpec := { name := "fnExactCountRings", fn := fun _ => fun
  | [d1, d2, d3] => { results := [.lit (.bool true)], args := [d1, d2, d3] }
  | _ => none }
def fnExactCountRingsRow : OpenClaim := { program := "ytpelhinjoambfaa", sum := "fe18b0734531c0edce3af1c9bf581060da7d70b8e55b107224820fd3ede9d97a", func := "loop.example/g01271/laws.FnExactCountRings", spec := "fnExactCountRings", unfollowed := true, recurses := true, apart := false }
def FnExactCountRingsSaid : Prop := fnExactCountRingsRow.holds Try.pinned (OpenSpec.ofChange fnExactCountRingsSpec)

/-- ITS FALSE NEIGHBOUR: 'it returns false'. Refute it at one input. -/
def fnExactCountRingsWrong : ChangeSpec := { name := "fnExactCountRings", fn := fun _ => fun
  | [d1, d2, d3] => { results := [.lit (.bool false)], args := [d1, d2, d3] }
  | _ => none }
def FnExactCountRingsWrongFalsely : Prop := fnExactCountRingsRow.holds Try.pinned (OpenSpec.ofChange fnExactCountRingsWrong)

/-- 'laws.FnExactCountBlockedRings': WHATEVER THE INPUT: true; the input reads as it did. -/
def fnExactCountBlockedRingsSpec : ChangeSpec := { name := "fnExactCountBlockedRings", fn := fun _ => fun
  | [d1, d2, d3] => { results := [.lit (.bool true)], args := [d1, d2, d3] }
  | _ => none }
def fnExactCountBlockedRingsRow : OpenClaim := { program := "ytpelhinjoambfaa", sum := "fe18b0734531c0edce3af1c9bf581060da7d70b8e55b107224820fd3ede9d97a", func := "loop.example/g01271/laws.FnExactCountBlockedRings", spec := "fnExactCountBlockedRings", unfollowed := true, recurses := true, apart := false }
def FnExactCountBlockedRingsSaid : Prop := fnExactCountBlockedRingsRow.holds Try.pinned (OpenSpec.ofChange fnExactCountBlockedRingsSpec)

/-- ITS FALSE NEIGHBOUR: 'it returns false'. Refute it at one input. -/
def fnExactCountBlockedRingsWrong : ChangeSpec := { name := "fnExactCountBlockedRings", fn := fun _ => fun
  | [d1, d2, d3] => { results := [.lit (.bool false)], args := [d1, d2, d3] }
  | _ => none }
def FnExactCountBlockedRingsWrongFalsely : Prop := fnExactCountBlockedRingsRow.holds Try.pinned (OpenSpec.ofChange fnExactCountBlockedRingsWrong)

/-- 'laws.FnExactCountStuck': WHATEVER THE INPUT: true; the input reads as it did. -/
def fnExactCountStuckSpec : ChangeSpec := { name := "fnExactCountStuck", fn := fun _ => fun
  | [d1, d2, d3, d4] => { results := [.lit (.bool true)], args := [d1, d2, d3, d4] }
  | _ => none }
def fnExactCountStuckRow : OpenClaim := { program := "ytpelhinjoambfaa", sum := "fe18b0734531c0edce3af1c9bf581060da7d70b8e55b107224820fd3ede9d97a", func := "loop.example/g01271/laws.FnExactCountStuck", spec := "fnExactCountStuck", unfollowed := true, recurses := true, apart := false }
def FnExactCountStuckSaid : Prop := fnExactCountStuckRow.holds Try.pinned (OpenSpec.ofChange fnExactCountStuckSpec)

/-- ITS FALSE NEIGHBOUR: 'it returns false'. Refute it at one input. -/
def fnExactCountStuckWrong : ChangeSpec := { name := "fnExactCountStuck", fn := fun _ => fun
  | [d1, d2, d3, d4] => { results := [.lit (.bool false)], args := [d1, d2, d3, d4] }
  | _ => none }
def FnExactCountStuckWrongFalsely : Prop := fnExactCountStuckRow.holds Try.pinned (OpenSpec.ofChange fnExactCountStuckWrong)

/-- 'laws.FnExactWordOfRuns': WHATEVER THE INPUT: true; the input reads as it did. -/
def fnExactWordOfRunsSpec : ChangeSpec := { name := "fnExactWordOfRuns", fn := fun _ => fun
  | [d1, d2] => { results := [.lit (.bool true)], args := [d1, d2] }
  | _ => none }
def fnExactWordOfRunsRow : OpenClaim := { program := "ytpelhinjoambfaa", sum := "fe18b0734531c0edce3af1c9bf581060da7d70b8e55b107224820fd3ede9d97a", func := "loop.example/g01271/laws.FnExactWordOfRuns", spec := "fnExactWordOfRuns", inPlace := ["internal/abi.NoEscape", "internal/bytealg.MakeNoZero"], apart := false }
def FnExactWordOfRunsSaid : Prop := fnExactWordOfRunsRow.holds Try.pinned (OpenSpec.ofChange fnExactWordOfRunsSpec)

/-- ITS FALSE NEIGHBOUR: 'it returns false'. Refute it at one input. -/
def fnExactWordOfRunsWrong : ChangeSpec := { name := "fnExactWordOfRuns", fn := fun _ => fun
  | [d1, d2] => { results := [.lit (.bool false)], args := [d1, d2] }
  | _ => none }
def FnExactWordOfRunsWrongFalsely : Prop := fnExactWordOfRunsRow.holds Try.pinned (OpenSpec.ofChange fnExactWordOfRunsWrong)

/-- 'laws.FnExactPartsByRule': WHATEVER THE INPUT: true; the input reads as it did. -/
def fnExactPartsByRuleSpec : ChangeSpec := { name := "fnExactPartsByRule", fn := fun _ => fun
  | [d1, d2, d3, d4] => { results := [.lit (.bool true)], args := [d1, d2, d3, d4] }
  | _ => none }
def fnExactPartsByRuleRow : OpenClaim := { program := "ytpelhinjoambfaa", sum := "fe18b0734531c0edce3af1c9bf581060da7d70b8e55b107224820fd3ede9d97a", func := "loop.example/g01271/laws.FnExactPartsByRule", spec := "fnExactPartsByRule", unfollowed := true, recurses := true, apart := false }
def FnExactPartsByRuleSaid : Prop := fnExactPartsByRuleRow.holds Try.pinned (OpenSpec.ofChange fnExactPartsByRuleSpec)

/-- ITS FALSE NEIGHBOUR: 'it returns false'. Refute it at one input. -/
def fnExactPartsByRuleWrong : ChangeSpec := { name := "fnExactPartsByRule", fn := fun _ => fun
  | [d1, d2, d3, d4] => { results := [.lit (.bool false)], args := [d1, d2, d3, d4] }
  | _ => none }
def FnExactPartsByRuleWrongFalsely : Prop := fnExactPartsByRuleRow.holds Try.pinned (OpenSpec.ofChange fnExactPartsByRuleWrong)

/- THE SECOND FORM. 'bulk': how many values and letters a reading holds, each counted each time it is reached (what is shared counts as often as it is met; a slice's spare places count too). A statement '..UptoSaid' is the law's where the arguments, and the package variables that the reading takes, are together of bulk at most 1048576: NARROWER than '..Said'. Prove '..Said' where nothing that the law and all that it calls make is longer than what came in: it says more and counts as full. Else prove '..UptoSaid'. A law counts once. -/
mutual
def uptoBulk {H : Type} : DataW H → Nat
  | .lit (.string bytes) => bytes.length + 1
  | .lit _ => 1
  | .nil => 1
  | .ptr d => uptoBulk d + 1
  | .slice elems spare => uptoBulkAll elems + uptoBulkAll spare + 1
  | .agg parts => uptoBulkAll parts + 1
  | .iface _ d => uptoBulk d + 1
  | .map entries => uptoBulkEntries entries + 1
  | .held _ => 1
def uptoBulkAll {H : Type} : List (DataW H) → Nat
  | [] => 0
  | d :: r => uptoBulk d + uptoBulkAll r
def uptoBulkEntries {H : Type} : List (Lit × DataW H) → Nat
  | [] => 0
  | x :: r => uptoBulkEntry x + uptoBulkEntries r
def uptoBulkEntry {H : Type} : Lit × DataW H → Nat
  | (.string bytes, d) => bytes.length + uptoBulk d + 1
  | (_, d) => uptoBulk d + 1
 end
def uptoSmall : (H : Type) → List (DataW H) → Bool := fun _ ds => decide (uptoBulkAll ds ≤ 1048576)
def OpenSpec.upto (s : _root_.Go.ChangeSpec) : _root_.Go.OpenSpec := { _root_.Go.OpenSpec.ofChange s with cond := some uptoSmall }

/-- 'laws.FnExactLineOfRank', WHERE WHAT IT READS IS OF BULK AT MOST 1048576: true; the input reads as it did. -/
def fnExactLineOfRankUptoRow : OpenClaim := { program := "ytpelhinjoambfaa", sum := "fe18b0734531c0edce3af1c9bf581060da7d70b8e55b107224820fd3ede9d97a", func := "loop.example/g01271/laws.FnExactLineOfRank", spec := "fnExactLineOfRank", apart := false, narrowed := true }
def FnExactLineOfRankUptoSaid : Prop := fnExactLineOfRankUptoRow.holds Try.pinned (OpenSpec.upto fnExactLineOfRankSpec)

/-- 'laws.FnExactCountRings', WHERE WHAT IT READS IS OF BULK AT MOST 1048576: true; the input reads as it did. -/
def fnExactCountRingsUptoRow : OpenClaim := { program := "ytpelhinjoambfaa", sum := "fe18b0734531c0edce3af1c9bf581060da7d70b8e55b107224820fd3ede9d97a", func := "loop.example/g01271/laws.FnExactCountRings", spec := "fnExactCountRings", unfollowed := true, recurses := true, apart := false, narrowed := true }
def FnExactCountRingsUptoSaid : Prop := fnExactCountRingsUptoRow.holds Try.pinned (OpenSpec.upto fnExactCountRingsSpec)

/-- 'laws.FnExactCountBlockedRings', WHERE WHAT IT READS IS OF BULK AT MOST 1048576: true; the input reads as it did. -/
def fnExactCountBlockedRingsUptoRow : OpenClaim := { program := "ytpelhinjoambfaa", sum := "fe18b0734531c0edce3af1c9bf581060da7d70b8e55b107224820fd3ede9d97a", func := "loop.example/g01271/laws.FnExactCountBlockedRings", spec := "fnExactCountBlockedRings", unfollowed := true, recurses := true, apart := false, narrowed := true }
def FnExactCountBlockedRingsUptoSaid : Prop := fnExactCountBlockedRingsUptoRow.holds Try.pinned (OpenSpec.upto fnExactCountBlockedRingsSpec)

/-- 'laws.FnExactCountStuck', WHERE WHAT IT READS IS OF BULK AT MOST 1048576: true; the input reads as it did. -/
def fnExactCountStuckUptoRow : OpenClaim := { program := "ytpelhinjoambfaa", sum := "fe18b0734531c0edce3af1c9bf581060da7d70b8e55b107224820fd3ede9d97a", func := "loop.example/g01271/laws.FnExactCountStuck", spec := "fnExactCountStuck", unfollowed := true, recurses := true, apart := false, narrowed := true }
def FnExactCountStuckUptoSaid : Prop := fnExactCountStuckUptoRow.holds Try.pinned (OpenSpec.upto fnExactCountStuckSpec)

/-- 'laws.FnExactWordOfRuns', WHERE WHAT IT READS IS OF BULK AT MOST 1048576: true; the input reads as it did. -/
def fnExactWordOfRunsUptoRow : OpenClaim := { program := "ytpelhinjoambfaa", sum := "fe18b0734531c0edce3af1c9bf581060da7d70b8e55b107224820fd3ede9d97a", func := "loop.example/g01271/laws.FnExactWordOfRuns", spec := "fnExactWordOfRuns", inPlace := ["internal/abi.NoEscape", "internal/bytealg.MakeNoZero"], apart := false, narrowed := true }
def FnExactWordOfRunsUptoSaid : Prop := fnExactWordOfRunsUptoRow.holds Try.pinned (OpenSpec.upto fnExactWordOfRunsSpec)

/-- 'laws.FnExactPartsByRule', WHERE WHAT IT READS IS OF BULK AT MOST 1048576: true; the input reads as it did. -/
def fnExactPartsByRuleUptoRow : OpenClaim := { program := "ytpelhinjoambfaa", sum := "fe18b0734531c0edce3af1c9bf581060da7d70b8e55b107224820fd3ede9d97a", func := "loop.example/g01271/laws.FnExactPartsByRule", spec := "fnExactPartsByRule", unfollowed := true, recurses := true, apart := false, narrowed := true }
def FnExactPartsByRuleUptoSaid : Prop := fnExactPartsByRuleUptoRow.holds Try.pinned (OpenSpec.upto fnExactPartsByRuleSpec)

end Rows
end Go.Proofs.Ytpelhinjoambfaa
