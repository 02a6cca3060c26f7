/-
  DERIVED. GIVEN WITH THE SEED: THE CARDS: each row of YtjgijaocinpkhaaDoorRows.lean that lists a variable, with what it lists TIED to the program's text (the seventh form; the later family's looks); each row that meets fmt, with fmt's text TOLD by the authors' own Lean function (tested against real Go, not proved from fmt's source: count such statements apart). THE CARD IS WHAT COUNTS. Prove the row's statement (the work); the ties are given (YtjgijaocinpkhaaDoorTie.lean); close each card by the builder's one call (the guide's Derived/Test/ToyasCard.lean, 'card_holds'). Laid BY PROGRAM, IN A SANDBOX (cutbox-door.mjs). By AI agents, Wed Nov 11 2026. No macro, syntax, notation, axiom, sorry.
-/
import Derived.Test.YtjgijaocinpkhaaDoorRows
import GoSem.ClaimSeven
namespace Go.Proofs.YtjgijaocinpkhaaDoor
namespace Rows

/-- THE TIED CARD OF 'laws.FnExactRingReached'. -/
def fnExactRingReachedCard : Claim7 := { stood := { row := fnExactRingReachedRow, standIns := [], harness := (true, "3dc905aac4f07cf6b7311e989fcd9f70c0e67d893a4b8a68f26ee08c5fdcc511"), looks := false }, kinds := [], alts := [], laidByText := true, laidKinds := [.data, .pinned], laidTests := true, laidLooks := .later }
def FnExactRingReachedCardSaid : Prop := Claim7.holds Tryd.pinned (.plain (OpenSpec.ofChange fnExactRingReachedSpec)) fnExactRingReachedCard

/-- THE TIED CARD OF 'laws.FnExactFarthestByRule'. -/
def fnExactFarthestByRuleCard : Claim7 := { stood := { row := fnExactFarthestByRuleRow, standIns := [], harness := (true, "3dc905aac4f07cf6b7311e989fcd9f70c0e67d893a4b8a68f26ee08c5fdcc511"), looks := false }, kinds := [], alts := [], laidByText := true, laidKinds := [.data, .pinned], laidTests := true, laidLooks := .later }
def FnExactFarthestByRuleCardSaid : Prop := Claim7.holds Tryd.pinned (.plain (OpenSpec.ofChange fnExactFarthestByRuleSpec)) fnExactFarthestByRuleCard

/-- THE TIED CARD OF 'laws.FnExactCountReachedByRule'. -/
def fnExactCountReachedByRuleCard : Claim7 := { stood := { row := fnExactCountReachedByRuleRow, standIns := [], harness := (true, "3dc905aac4f07cf6b7311e989fcd9f70c0e67d893a4b8a68f26ee08c5fdcc511"), looks := false }, kinds := [], alts := [], laidByText := true, laidKinds := [.data, .pinned], laidTests := true, laidLooks := .later }
def FnExactCountReachedByRuleCardSaid : Prop := Claim7.holds Tryd.pinned (.plain (OpenSpec.ofChange fnExactCountReachedByRuleSpec)) fnExactCountReachedByRuleCard

/-- THE TIED CARD OF 'laws.FnExactReachByRule'. -/
def fnExactReachByRuleCard : Claim7 := { stood := { row := fnExactReachByRuleRow, standIns := [], harness := (true, "3dc905aac4f07cf6b7311e989fcd9f70c0e67d893a4b8a68f26ee08c5fdcc511"), looks := false }, kinds := [], alts := [], laidByText := true, laidKinds := [.data, .pinned], laidTests := true, laidLooks := .later }
def FnExactReachByRuleCardSaid : Prop := Claim7.holds Tryd.pinned (.plain (OpenSpec.ofChange fnExactReachByRuleSpec)) fnExactReachByRuleCard

/-- THE TIED CARD OF 'laws.FnExactReachOnRing'. -/
def fnExactReachOnRingCard : Claim7 := { stood := { row := fnExactReachOnRingRow, standIns := [], harness := (true, "3dc905aac4f07cf6b7311e989fcd9f70c0e67d893a4b8a68f26ee08c5fdcc511"), looks := false }, kinds := [], alts := [], laidByText := true, laidKinds := [.data, .pinned], laidTests := true, laidLooks := .later }
def FnExactReachOnRingCardSaid : Prop := Claim7.holds Tryd.pinned (.plain (OpenSpec.ofChange fnExactReachOnRingSpec)) fnExactReachOnRingCard

/-- THE TIED CARD OF 'laws.FnExactShortestOnRing'. -/
def fnExactShortestOnRingCard : Claim7 := { stood := { row := fnExactShortestOnRingRow, standIns := [], harness := (true, "3dc905aac4f07cf6b7311e989fcd9f70c0e67d893a4b8a68f26ee08c5fdcc511"), looks := false }, kinds := [], alts := [], laidByText := true, laidKinds := [.data, .pinned], laidTests := true, laidLooks := .later }
def FnExactShortestOnRingCardSaid : Prop := Claim7.holds Tryd.pinned (.plain (OpenSpec.ofChange fnExactShortestOnRingSpec)) fnExactShortestOnRingCard

/-- THE TIED CARD OF 'laws.FnExactComesAround'. -/
def fnExactComesAroundCard : Claim7 := { stood := { row := fnExactComesAroundRow, standIns := [], harness := (true, "3dc905aac4f07cf6b7311e989fcd9f70c0e67d893a4b8a68f26ee08c5fdcc511"), looks := false }, kinds := [], alts := [], laidByText := true, laidKinds := [.data, .pinned], laidTests := true, laidLooks := .later }
def FnExactComesAroundCardSaid : Prop := Claim7.holds Tryd.pinned (.plain (OpenSpec.ofChange fnExactComesAroundSpec)) fnExactComesAroundCard

/-- THE TIED CARD OF 'laws.FnExactShortestByRule'. -/
def fnExactShortestByRuleCard : Claim7 := { stood := { row := fnExactShortestByRuleRow, standIns := [], harness := (true, "3dc905aac4f07cf6b7311e989fcd9f70c0e67d893a4b8a68f26ee08c5fdcc511"), looks := false }, kinds := [], alts := [], laidByText := true, laidKinds := [.data, .pinned], laidTests := true, laidLooks := .later }
def FnExactShortestByRuleCardSaid : Prop := Claim7.holds Tryd.pinned (.plain (OpenSpec.ofChange fnExactShortestByRuleSpec)) fnExactShortestByRuleCard

/-- THE TIED CARD OF 'laws.FnExactBothWays'. -/
def fnExactBothWaysCard : Claim7 := { stood := { row := fnExactBothWaysRow, standIns := [], harness := (true, "3dc905aac4f07cf6b7311e989fcd9f70c0e67d893a4b8a68f26ee08c5fdcc511"), looks := false }, kinds := [], alts := [], laidByText := true, laidKinds := [.data, .pinned], laidTests := true, laidLooks := .later }
def FnExactBothWaysCardSaid : Prop := Claim7.holds Tryd.pinned (.plain (OpenSpec.ofChange fnExactBothWaysSpec)) fnExactBothWaysCard

/-- THE TIED CARD OF 'laws.FnExactPathOnRing'. -/
def fnExactPathOnRingCard : Claim7 := { stood := { row := fnExactPathOnRingRow, standIns := [], harness := (true, "3dc905aac4f07cf6b7311e989fcd9f70c0e67d893a4b8a68f26ee08c5fdcc511"), looks := false }, kinds := [], alts := [], laidByText := true, laidKinds := [.data, .pinned], laidTests := true, laidLooks := .later }
def FnExactPathOnRingCardSaid : Prop := Claim7.holds Tryd.pinned (.plain (OpenSpec.ofChange fnExactPathOnRingSpec)) fnExactPathOnRingCard

/-- THE TIED CARD OF 'laws.FnExactFirstShortest'. -/
def fnExactFirstShortestCard : Claim7 := { stood := { row := fnExactFirstShortestRow, standIns := [], harness := (true, "3dc905aac4f07cf6b7311e989fcd9f70c0e67d893a4b8a68f26ee08c5fdcc511"), looks := false }, kinds := [], alts := [], laidByText := true, laidKinds := [.data, .pinned], laidTests := true, laidLooks := .later }
def FnExactFirstShortestCardSaid : Prop := Claim7.holds Tryd.pinned (.plain (OpenSpec.ofChange fnExactFirstShortestSpec)) fnExactFirstShortestCard

/-- THE TIED CARD OF 'laws.FnExactFewestToExchange'. -/
def fnExactFewestToExchangeCard : Claim7 := { stood := { row := fnExactFewestToExchangeRow, standIns := [], harness := (true, "3dc905aac4f07cf6b7311e989fcd9f70c0e67d893a4b8a68f26ee08c5fdcc511"), looks := false }, kinds := [], alts := [], laidByText := true, laidKinds := [.data, .pinned], laidTests := true, laidLooks := .later }
def FnExactFewestToExchangeCardSaid : Prop := Claim7.holds Tryd.pinned (.plain (OpenSpec.ofChange fnExactFewestToExchangeSpec)) fnExactFewestToExchangeCard

/-- THE SECOND FORM's CARD OF 'laws.FnExactRingReached'. -/
def fnExactRingReachedUptoCard : Claim7 := { stood := { row := fnExactRingReachedUptoRow, standIns := [], harness := (true, "3dc905aac4f07cf6b7311e989fcd9f70c0e67d893a4b8a68f26ee08c5fdcc511"), looks := false }, kinds := [], alts := [], laidByText := true, laidKinds := [.data, .pinned], laidTests := true, laidLooks := .later }
def FnExactRingReachedUptoCardSaid : Prop := Claim7.holds Tryd.pinned (.plain (OpenSpec.upto fnExactRingReachedSpec)) fnExactRingReachedUptoCard

/-- THE SECOND FORM's CARD OF 'laws.FnExactFarthestByRule'. -/
def fnExactFarthestByRuleUptoCard : Claim7 := { stood := { row := fnExactFarthestByRuleUptoRow, standIns := [], harness := (true, "3dc905aac4f07cf6b7311e989fcd9f70c0e67d893a4b8a68f26ee08c5fdcc511"), looks := false }, kinds := [], alts := [], laidByText := true, laidKinds := [.data, .pinned], laidTests := true, laidLooks := .later }
def FnExactFarthestByRuleUptoCardSaid : Prop := Claim7.holds Tryd.pinned (.plain (OpenSpec.upto fnExactFarthestByRuleSpec)) fnExactFarthestByRuleUptoCard

/-- THE SECOND FORM's CARD OF 'laws.FnExactCountReachedByRule'. -/
def fnExactCountReachedByRuleUptoCard : Claim7 := { stood := { row := fnExactCountReachedByRuleUptoRow, standIns := [], harness := (true, "3dc905aac4f07cf6b7311e989fcd9f70c0e67d893a4b8a68f26ee08c5fdcc511"), looks := false }, kinds := [], alts := [], laidByText := true, laidKinds := [.data, .pinned], laidTests := true, laidLooks := .later }
def FnExactCountReachedByRuleUptoCardSaid : Prop := Claim7.holds Tryd.pinned (.plain (OpenSpec.upto fnExactCountReachedByRuleSpec)) fnExactCountReachedByRuleUptoCard

/-- THE SECOND FORM's CARD OF 'laws.FnExactReachByRule'. -/
def fnExactReachByRuleUptoCard : Claim7 := { stood := { row := fnExactReachByRuleUptoRow, standIns := [], harness := (true, "3dc905aac4f07cf6b7311e989fcd9f70c0e67d893a4b8a68f26ee08c5fdcc511"), looks := false }, kinds := [], alts := [], laidByText := true, laidKinds := [.data, .pinned], laidTests := true, laidLooks := .later }
def FnExactReachByRuleUptoCardSaid : Prop := Claim7.holds Tryd.pinned (.plain (OpenSpec.upto fnExactReachByRuleSpec)) fnExactReachByRuleUptoCard

/-- THE SECOND FORM's CARD OF 'laws.FnExactReachOnRing'. -/
def fnExactReachOnRingUptoCard : Claim7 := { stood := { row := fnExactReachOnRingUptoRow, standIns := [], harness := (true, "3dc905aac4f07cf6b7311e989fcd9f70c0e67d893a4b8a68f26ee08c5fdcc511"), looks := false }, kinds := [], alts := [], laidByText := true, laidKinds := [.data, .pinned], laidTests := true, laidLooks := .later }
def FnExactReachOnRingUptoCardSaid : Prop := Claim7.holds Tryd.pinned (.plain (OpenSpec.upto fnExactReachOnRingSpec)) fnExactReachOnRingUptoCard

/-- THE SECOND FORM's CARD OF 'laws.FnExactShortestOnRing'. -/
def fnExactShortestOnRingUptoCard : Claim7 := { stood := { row := fnExactShortestOnRingUptoRow, standIns := [], harness := (true, "3dc905aac4f07cf6b7311e989fcd9f70c0e67d893a4b8a68f26ee08c5fdcc511"), looks := false }, kinds := [], alts := [], laidByText := true, laidKinds := [.data, .pinned], laidTests := true, laidLooks := .later }
def FnExactShortestOnRingUptoCardSaid : Prop := Claim7.holds Tryd.pinned (.plain (OpenSpec.upto fnExactShortestOnRingSpec)) fnExactShortestOnRingUptoCard

/-- THE SECOND FORM's CARD OF 'laws.FnExactComesAround'. -/
def fnExactComesAroundUptoCard : Claim7 := { stood := { row := fnExactComesAroundUptoRow, standIns := [], harness := (true, "3dc905aac4f07cf6b7311e989fcd9f70c0e67d893a4b8a68f26ee08c5fdcc511"), looks := false }, kinds := [], alts := [], laidByText := true, laidKinds := [.data, .pinned], laidTests := true, laidLooks := .later }
def FnExactComesAroundUptoCardSaid : Prop := Claim7.holds Tryd.pinned (.plain (OpenSpec.upto fnExactComesAroundSpec)) fnExactComesAroundUptoCard

/-- THE SECOND FORM's CARD OF 'laws.FnExactShortestByRule'. -/
def fnExactShortestByRuleUptoCard : Claim7 := { stood := { row := fnExactShortestByRuleUptoRow, standIns := [], harness := (true, "3dc905aac4f07cf6b7311e989fcd9f70c0e67d893a4b8a68f26ee08c5fdcc511"), looks := false }, kinds := [], alts := [], laidByText := true, laidKinds := [.data, .pinned], laidTests := true, laidLooks := .later }
def FnExactShortestByRuleUptoCardSaid : Prop := Claim7.holds Tryd.pinned (.plain (OpenSpec.upto fnExactShortestByRuleSpec)) fnExactShortestByRuleUptoCard

/-- THE SECOND FORM's CARD OF 'laws.FnExactBothWays'. -/
def fnExactBothWaysUptoCard : Claim7 := { stood := { row := fnExactBothWaysUptoRow, standIns := [], harness := (true, "3dc905aac4f07cf6b7311e989fcd9f70c0e67d893a4b8a68f26ee08c5fdcc511"), looks := false }, kinds := [], alts := [], laidByText := true, laidKinds := [.data, .pinned], laidTests := true, laidLooks := .later }
def FnExactBothWaysUptoCardSaid : Prop := Claim7.holds Tryd.pinned (.plain (OpenSpec.upto fnExactBothWaysSpec)) fnExactBothWaysUptoCard

/-- THE SECOND FORM's CARD OF 'laws.FnExactPathOnRing'. -/
def fnExactPathOnRingUptoCard : Claim7 := { stood := { row := fnExactPathOnRingUptoRow, standIns := [], harness := (true, "3dc905aac4f07cf6b7311e989fcd9f70c0e67d893a4b8a68f26ee08c5fdcc511"), looks := false }, kinds := [], alts := [], laidByText := true, laidKinds := [.data, .pinned], laidTests := true, laidLooks := .later }
def FnExactPathOnRingUptoCardSaid : Prop := Claim7.holds Tryd.pinned (.plain (OpenSpec.upto fnExactPathOnRingSpec)) fnExactPathOnRingUptoCard

/-- THE SECOND FORM's CARD OF 'laws.FnExactFirstShortest'. -/
def fnExactFirstShortestUptoCard : Claim7 := { stood := { row := fnExactFirstShortestUptoRow, standIns := [], harness := (true, "3dc905aac4f07cf6b7311e989fcd9f70c0e67d893a4b8a68f26ee08c5fdcc511"), looks := false }, kinds := [], alts := [], laidByText := true, laidKinds := [.data, .pinned], laidTests := true, laidLooks := .later }
def FnExactFirstShortestUptoCardSaid : Prop := Claim7.holds Tryd.pinned (.plain (OpenSpec.upto fnExactFirstShortestSpec)) fnExactFirstShortestUptoCard

/-- THE SECOND FORM's CARD OF 'laws.FnExactFewestToExchange'. -/
def fnExactFewestToExchangeUptoCard : Claim7 := { stood := { row := fnExactFewestToExchangeUptoRow, standIns := [], harness := (true, "3dc905aac4f07cf6b7311e989fcd9f70c0e67d893a4b8a68f26ee08c5fdcc511"), looks := false }, kinds := [], alts := [], laidByText := true, laidKinds := [.data, .pinned], laidTests := true, laidLooks := .later }
def FnExactFewestToExchangeUptoCardSaid : Prop := Claim7.holds Tryd.pinned (.plain (OpenSpec.upto fnExactFewestToExchangeSpec)) fnExactFewestToExchangeUptoCard
end Rows
end Go.Proofs.YtjgijaocinpkhaaDoor
