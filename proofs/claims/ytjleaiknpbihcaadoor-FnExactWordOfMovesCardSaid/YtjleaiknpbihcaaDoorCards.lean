/-
  DERIVED. GIVEN WITH THE SEED: THE CARDS: each row of YtjleaiknpbihcaaDoorRows.lean that lists a variable, with what it lists TIED to the program's text (the seventh form; the later family's looks); each row that meets fmt, with fmt's text TOLD by the authors' own Lean function (tested against real Go, not proved from fmt's source: count such statements apart). THE CARD IS WHAT COUNTS. Prove the row's statement (the work); the ties are given (YtjleaiknpbihcaaDoorTie.lean); close each card by the builder's one call (the guide's Derived/Test/ToyasCard.lean, 'card_holds'). Laid BY PROGRAM, IN A SANDBOX (cutbox-door.mjs). By AI agents, Wed Nov 11 2026. No macro, syntax, notation, axiom, sorry.
-/
import Derived.Test.YtjleaiknpbihcaaDoorRows
import GoSem.ClaimSeven
namespace Go.Proofs.YtjleaiknpbihcaaDoor
namespace Rows

/-- THE TIED CARD OF 'laws.FnExactRingBlocked'. -/
def fnExactRingBlockedCard : Claim7 := { stood := { row := fnExactRingBlockedRow, standIns := [], harness := (true, "40e5874ad8c2c00678189a08dcf4b1066798e46e004a80a7090eec622e617262"), looks := false }, kinds := [], alts := [], laidByText := true, laidKinds := [.data, .pinned], laidTests := true, laidLooks := .later }
def FnExactRingBlockedCardSaid : Prop := Claim7.holds Tryd.pinned (.plain (OpenSpec.ofChange fnExactRingBlockedSpec)) fnExactRingBlockedCard

/-- THE TIED CARD OF 'laws.FnExactCanMove'. -/
def fnExactCanMoveCard : Claim7 := { stood := { row := fnExactCanMoveRow, standIns := [], harness := (true, "40e5874ad8c2c00678189a08dcf4b1066798e46e004a80a7090eec622e617262"), looks := false }, kinds := [], alts := [], laidByText := true, laidKinds := [.data, .pinned], laidTests := true, laidLooks := .later }
def FnExactCanMoveCardSaid : Prop := Claim7.holds Tryd.pinned (.plain (OpenSpec.ofChange fnExactCanMoveSpec)) fnExactCanMoveCard

/-- THE TIED CARD OF 'laws.FnExactCanOnRing'. -/
def fnExactCanOnRingCard : Claim7 := { stood := { row := fnExactCanOnRingRow, standIns := [], harness := (true, "40e5874ad8c2c00678189a08dcf4b1066798e46e004a80a7090eec622e617262"), looks := false }, kinds := [], alts := [], laidByText := true, laidKinds := [.data, .pinned], laidTests := true, laidLooks := .later }
def FnExactCanOnRingCardSaid : Prop := Claim7.holds Tryd.pinned (.plain (OpenSpec.ofChange fnExactCanOnRingSpec)) fnExactCanOnRingCard

/-- THE TIED CARD OF 'laws.FnExactIsJump'. -/
def fnExactIsJumpCard : Claim7 := { stood := { row := fnExactIsJumpRow, standIns := [], harness := (true, "40e5874ad8c2c00678189a08dcf4b1066798e46e004a80a7090eec622e617262"), looks := false }, kinds := [], alts := [], laidByText := true, laidKinds := [.data, .pinned], laidTests := true, laidLooks := .later }
def FnExactIsJumpCardSaid : Prop := Claim7.holds Tryd.pinned (.plain (OpenSpec.ofChange fnExactIsJumpSpec)) fnExactIsJumpCard

/-- THE TIED CARD OF 'laws.FnExactMakeMove'. -/
def fnExactMakeMoveCard : Claim7 := { stood := { row := fnExactMakeMoveRow, standIns := [], harness := (true, "40e5874ad8c2c00678189a08dcf4b1066798e46e004a80a7090eec622e617262"), looks := false }, kinds := [], alts := [], laidByText := true, laidKinds := [.data, .pinned], laidTests := true, laidLooks := .later }
def FnExactMakeMoveCardSaid : Prop := Claim7.holds Tryd.pinned (.plain (OpenSpec.ofChange fnExactMakeMoveSpec)) fnExactMakeMoveCard

/-- THE TIED CARD OF 'laws.FnExactMakeOnRing'. -/
def fnExactMakeOnRingCard : Claim7 := { stood := { row := fnExactMakeOnRingRow, standIns := [], harness := (true, "40e5874ad8c2c00678189a08dcf4b1066798e46e004a80a7090eec622e617262"), looks := false }, kinds := [], alts := [], laidByText := true, laidKinds := [.data, .pinned], laidTests := true, laidLooks := .later }
def FnExactMakeOnRingCardSaid : Prop := Claim7.holds Tryd.pinned (.plain (OpenSpec.ofChange fnExactMakeOnRingSpec)) fnExactMakeOnRingCard

/-- THE TIED CARD OF 'laws.FnExactCanByRule'. -/
def fnExactCanByRuleCard : Claim7 := { stood := { row := fnExactCanByRuleRow, standIns := [], harness := (true, "40e5874ad8c2c00678189a08dcf4b1066798e46e004a80a7090eec622e617262"), looks := false }, kinds := [], alts := [], laidByText := true, laidKinds := [.data, .pinned], laidTests := true, laidLooks := .later }
def FnExactCanByRuleCardSaid : Prop := Claim7.holds Tryd.pinned (.plain (OpenSpec.ofChange fnExactCanByRuleSpec)) fnExactCanByRuleCard

/-- THE TIED CARD OF 'laws.FnExactRingMoves'. -/
def fnExactRingMovesCard : Claim7 := { stood := { row := fnExactRingMovesRow, standIns := [], harness := (true, "40e5874ad8c2c00678189a08dcf4b1066798e46e004a80a7090eec622e617262"), looks := false }, kinds := [], alts := [], laidByText := true, laidKinds := [.data, .pinned], laidTests := true, laidLooks := .later }
def FnExactRingMovesCardSaid : Prop := Claim7.holds Tryd.pinned (.plain (OpenSpec.ofChange fnExactRingMovesSpec)) fnExactRingMovesCard

/-- THE TIED CARD OF 'laws.FnExactMakeByRule'. -/
def fnExactMakeByRuleCard : Claim7 := { stood := { row := fnExactMakeByRuleRow, standIns := [], harness := (true, "40e5874ad8c2c00678189a08dcf4b1066798e46e004a80a7090eec622e617262"), looks := false }, kinds := [], alts := [], laidByText := true, laidKinds := [.data, .pinned], laidTests := true, laidLooks := .later }
def FnExactMakeByRuleCardSaid : Prop := Claim7.holds Tryd.pinned (.plain (OpenSpec.ofChange fnExactMakeByRuleSpec)) fnExactMakeByRuleCard

/-- THE TIED CARD OF 'laws.FnExactWordOfMoves'. -/
def fnExactWordOfMovesCard : Claim7 := { stood := { row := fnExactWordOfMovesRow, standIns := [], harness := (true, "40e5874ad8c2c00678189a08dcf4b1066798e46e004a80a7090eec622e617262"), looks := false }, kinds := [], alts := [], laidByText := true, laidKinds := [.data, .pinned], laidTests := true, laidLooks := .later }
def FnExactWordOfMovesCardSaid : Prop := Claim7.holds Tryd.pinned (.plain (OpenSpec.ofChange fnExactWordOfMovesSpec)) fnExactWordOfMovesCard

/-- THE TIED CARD OF 'laws.FnExactRuleMoves'. -/
def fnExactRuleMovesCard : Claim7 := { stood := { row := fnExactRuleMovesRow, standIns := [], harness := (true, "40e5874ad8c2c00678189a08dcf4b1066798e46e004a80a7090eec622e617262"), looks := false }, kinds := [], alts := [], laidByText := true, laidKinds := [.data, .pinned], laidTests := true, laidLooks := .later }
def FnExactRuleMovesCardSaid : Prop := Claim7.holds Tryd.pinned (.plain (OpenSpec.ofChange fnExactRuleMovesSpec)) fnExactRuleMovesCard

/-- THE SECOND FORM's CARD OF 'laws.FnExactRingBlocked'. -/
def fnExactRingBlockedUptoCard : Claim7 := { stood := { row := fnExactRingBlockedUptoRow, standIns := [], harness := (true, "40e5874ad8c2c00678189a08dcf4b1066798e46e004a80a7090eec622e617262"), looks := false }, kinds := [], alts := [], laidByText := true, laidKinds := [.data, .pinned], laidTests := true, laidLooks := .later }
def FnExactRingBlockedUptoCardSaid : Prop := Claim7.holds Tryd.pinned (.plain (OpenSpec.upto fnExactRingBlockedSpec)) fnExactRingBlockedUptoCard

/-- THE SECOND FORM's CARD OF 'laws.FnExactCanMove'. -/
def fnExactCanMoveUptoCard : Claim7 := { stood := { row := fnExactCanMoveUptoRow, standIns := [], harness := (true, "40e5874ad8c2c00678189a08dcf4b1066798e46e004a80a7090eec622e617262"), looks := false }, kinds := [], alts := [], laidByText := true, laidKinds := [.data, .pinned], laidTests := true, laidLooks := .later }
def FnExactCanMoveUptoCardSaid : Prop := Claim7.holds Tryd.pinned (.plain (OpenSpec.upto fnExactCanMoveSpec)) fnExactCanMoveUptoCard

/-- THE SECOND FORM's CARD OF 'laws.FnExactCanOnRing'. -/
def fnExactCanOnRingUptoCard : Claim7 := { stood := { row := fnExactCanOnRingUptoRow, standIns := [], harness := (true, "40e5874ad8c2c00678189a08dcf4b1066798e46e004a80a7090eec622e617262"), looks := false }, kinds := [], alts := [], laidByText := true, laidKinds := [.data, .pinned], laidTests := true, laidLooks := .later }
def FnExactCanOnRingUptoCardSaid : Prop := Claim7.holds Tryd.pinned (.plain (OpenSpec.upto fnExactCanOnRingSpec)) fnExactCanOnRingUptoCard

/-- THE SECOND FORM's CARD OF 'laws.FnExactIsJump'. -/
def fnExactIsJumpUptoCard : Claim7 := { stood := { row := fnExactIsJumpUptoRow, standIns := [], harness := (true, "40e5874ad8c2c00678189a08dcf4b1066798e46e004a80a7090eec622e617262"), looks := false }, kinds := [], alts := [], laidByText := true, laidKinds := [.data, .pinned], laidTests := true, laidLooks := .later }
def FnExactIsJumpUptoCardSaid : Prop := Claim7.holds Tryd.pinned (.plain (OpenSpec.upto fnExactIsJumpSpec)) fnExactIsJumpUptoCard

/-- THE SECOND FORM's CARD OF 'laws.FnExactMakeMove'. -/
def fnExactMakeMoveUptoCard : Claim7 := { stood := { row := fnExactMakeMoveUptoRow, standIns := [], harness := (true, "40e5874ad8c2c00678189a08dcf4b1066798e46e004a80a7090eec622e617262"), looks := false }, kinds := [], alts := [], laidByText := true, laidKinds := [.data, .pinned], laidTests := true, laidLooks := .later }
def FnExactMakeMoveUptoCardSaid : Prop := Claim7.holds Tryd.pinned (.plain (OpenSpec.upto fnExactMakeMoveSpec)) fnExactMakeMoveUptoCard

/-- THE SECOND FORM's CARD OF 'laws.FnExactMakeOnRing'. -/
def fnExactMakeOnRingUptoCard : Claim7 := { stood := { row := fnExactMakeOnRingUptoRow, standIns := [], harness := (true, "40e5874ad8c2c00678189a08dcf4b1066798e46e004a80a7090eec622e617262"), looks := false }, kinds := [], alts := [], laidByText := true, laidKinds := [.data, .pinned], laidTests := true, laidLooks := .later }
def FnExactMakeOnRingUptoCardSaid : Prop := Claim7.holds Tryd.pinned (.plain (OpenSpec.upto fnExactMakeOnRingSpec)) fnExactMakeOnRingUptoCard

/-- THE SECOND FORM's CARD OF 'laws.FnExactCanByRule'. -/
def fnExactCanByRuleUptoCard : Claim7 := { stood := { row := fnExactCanByRuleUptoRow, standIns := [], harness := (true, "40e5874ad8c2c00678189a08dcf4b1066798e46e004a80a7090eec622e617262"), looks := false }, kinds := [], alts := [], laidByText := true, laidKinds := [.data, .pinned], laidTests := true, laidLooks := .later }
def FnExactCanByRuleUptoCardSaid : Prop := Claim7.holds Tryd.pinned (.plain (OpenSpec.upto fnExactCanByRuleSpec)) fnExactCanByRuleUptoCard

/-- THE SECOND FORM's CARD OF 'laws.FnExactRingMoves'. -/
def fnExactRingMovesUptoCard : Claim7 := { stood := { row := fnExactRingMovesUptoRow, standIns := [], harness := (true, "40e5874ad8c2c00678189a08dcf4b1066798e46e004a80a7090eec622e617262"), looks := false }, kinds := [], alts := [], laidByText := true, laidKinds := [.data, .pinned], laidTests := true, laidLooks := .later }
def FnExactRingMovesUptoCardSaid : Prop := Claim7.holds Tryd.pinned (.plain (OpenSpec.upto fnExactRingMovesSpec)) fnExactRingMovesUptoCard

/-- THE SECOND FORM's CARD OF 'laws.FnExactMakeByRule'. -/
def fnExactMakeByRuleUptoCard : Claim7 := { stood := { row := fnExactMakeByRuleUptoRow, standIns := [], harness := (true, "40e5874ad8c2c00678189a08dcf4b1066798e46e004a80a7090eec622e617262"), looks := false }, kinds := [], alts := [], laidByText := true, laidKinds := [.data, .pinned], laidTests := true, laidLooks := .later }
def FnExactMakeByRuleUptoCardSaid : Prop := Claim7.holds Tryd.pinned (.plain (OpenSpec.upto fnExactMakeByRuleSpec)) fnExactMakeByRuleUptoCard

/-- THE SECOND FORM's CARD OF 'laws.FnExactWordOfMoves'. -/
def fnExactWordOfMovesUptoCard : Claim7 := { stood := { row := fnExactWordOfMovesUptoRow, standIns := [], harness := (true, "40e5874ad8c2c00678189a08dcf4b1066798e46e004a80a7090eec622e617262"), looks := false }, kinds := [], alts := [], laidByText := true, laidKinds := [.data, .pinned], laidTests := true, laidLooks := .later }
def FnExactWordOfMovesUptoCardSaid : Prop := Claim7.holds Tryd.pinned (.plain (OpenSpec.upto fnExactWordOfMovesSpec)) fnExactWordOfMovesUptoCard

/-- THE SECOND FORM's CARD OF 'laws.FnExactRuleMoves'. -/
def fnExactRuleMovesUptoCard : Claim7 := { stood := { row := fnExactRuleMovesUptoRow, standIns := [], harness := (true, "40e5874ad8c2c00678189a08dcf4b1066798e46e004a80a7090eec622e617262"), looks := false }, kinds := [], alts := [], laidByText := true, laidKinds := [.data, .pinned], laidTests := true, laidLooks := .later }
def FnExactRuleMovesUptoCardSaid : Prop := Claim7.holds Tryd.pinned (.plain (OpenSpec.upto fnExactRuleMovesSpec)) fnExactRuleMovesUptoCard
end Rows
end Go.Proofs.YtjleaiknpbihcaaDoor
