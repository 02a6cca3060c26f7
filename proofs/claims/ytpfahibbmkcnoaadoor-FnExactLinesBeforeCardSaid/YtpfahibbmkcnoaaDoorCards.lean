/-
  DERIVED. GIVEN WITH THE SEED: THE CARDS: each row of YtpfahibbmkcnoaaDoorRows.lean that lists a variable, with what it lists TIED to the program's text (the seventh form; the later family's looks); each row that meets fmt, with fmt's text TOLD by the authors' own Lean function (tested against real Go, not proved from fmt's source: count such statements apart). THE CARD IS WHAT COUNTS. Prove the row's statement (the work); the ties are given (YtpfahibbmkcnoaaDoorTie.lean); close each card by the builder's one call (the guide's Derived/Test/ToyasCard.lean, 'card_holds'). Laid BY PROGRAM, IN A SANDBOX (cutbox-door.mjs). By AI agents, Wed Nov 11 2026. No macro, syntax, notation, axiom, sorry.
-/
import Derived.Test.YtpfahibbmkcnoaaDoorRows
import GoSem.ClaimSeven
namespace Go.Proofs.YtpfahibbmkcnoaaDoor
namespace Rows

/-- THE TIED CARD OF 'laws.FnExactIsBoard'. -/
def fnExactIsBoardCard : Claim7 := { stood := { row := fnExactIsBoardRow, standIns := [], harness := (true, "7ec46fa21f3a98e7c39cd84b2743546081f34bd10e04f4d83743cbb653c4c324"), looks := false }, kinds := [], alts := [], laidByText := true, laidKinds := [.data, .pinned], laidTests := true, laidLooks := .later }
def FnExactIsBoardCardSaid : Prop := Claim7.holds Tryd.pinned (.plain (OpenSpec.ofChange fnExactIsBoardSpec)) fnExactIsBoardCard

/-- THE TIED CARD OF 'laws.FnExactRowOfBoard'. -/
def fnExactRowOfBoardCard : Claim7 := { stood := { row := fnExactRowOfBoardRow, standIns := [], harness := (true, "7ec46fa21f3a98e7c39cd84b2743546081f34bd10e04f4d83743cbb653c4c324"), looks := false }, kinds := [], alts := [], laidByText := true, laidKinds := [.data, .pinned], laidTests := true, laidLooks := .later }
def FnExactRowOfBoardCardSaid : Prop := Claim7.holds Tryd.pinned (.plain (OpenSpec.ofChange fnExactRowOfBoardSpec)) fnExactRowOfBoardCard

/-- THE TIED CARD OF 'laws.FnExactSizeOfBoard'. -/
def fnExactSizeOfBoardCard : Claim7 := { stood := { row := fnExactSizeOfBoardRow, standIns := [], harness := (true, "7ec46fa21f3a98e7c39cd84b2743546081f34bd10e04f4d83743cbb653c4c324"), looks := false }, kinds := [], alts := [], laidByText := true, laidKinds := [.data, .pinned], laidTests := true, laidLooks := .later }
def FnExactSizeOfBoardCardSaid : Prop := Claim7.holds Tryd.pinned (.plain (OpenSpec.ofChange fnExactSizeOfBoardSpec)) fnExactSizeOfBoardCard

/-- THE TIED CARD OF 'laws.FnExactWayOnBoard'. -/
def fnExactWayOnBoardCard : Claim7 := { stood := { row := fnExactWayOnBoardRow, standIns := [], harness := (true, "7ec46fa21f3a98e7c39cd84b2743546081f34bd10e04f4d83743cbb653c4c324"), looks := false }, kinds := [], alts := [], laidByText := true, laidKinds := [.data, .pinned], laidTests := true, laidLooks := .later }
def FnExactWayOnBoardCardSaid : Prop := Claim7.holds Tryd.pinned (.plain (OpenSpec.ofChange fnExactWayOnBoardSpec)) fnExactWayOnBoardCard

/-- THE TIED CARD OF 'laws.FnExactLinesBefore'. -/
def fnExactLinesBeforeCard : Claim7 := { stood := { row := fnExactLinesBeforeRow, standIns := [], harness := (true, "7ec46fa21f3a98e7c39cd84b2743546081f34bd10e04f4d83743cbb653c4c324"), looks := false }, kinds := [], alts := [], laidByText := true, laidKinds := [.data, .pinned], laidTests := true, laidLooks := .later }
def FnExactLinesBeforeCardSaid : Prop := Claim7.holds Tryd.pinned (.plain (OpenSpec.ofChange fnExactLinesBeforeSpec)) fnExactLinesBeforeCard

/-- THE SECOND FORM's CARD OF 'laws.FnExactIsBoard'. -/
def fnExactIsBoardUptoCard : Claim7 := { stood := { row := fnExactIsBoardUptoRow, standIns := [], harness := (true, "7ec46fa21f3a98e7c39cd84b2743546081f34bd10e04f4d83743cbb653c4c324"), looks := false }, kinds := [], alts := [], laidByText := true, laidKinds := [.data, .pinned], laidTests := true, laidLooks := .later }
def FnExactIsBoardUptoCardSaid : Prop := Claim7.holds Tryd.pinned (.plain (OpenSpec.upto fnExactIsBoardSpec)) fnExactIsBoardUptoCard

/-- THE SECOND FORM's CARD OF 'laws.FnExactRowOfBoard'. -/
def fnExactRowOfBoardUptoCard : Claim7 := { stood := { row := fnExactRowOfBoardUptoRow, standIns := [], harness := (true, "7ec46fa21f3a98e7c39cd84b2743546081f34bd10e04f4d83743cbb653c4c324"), looks := false }, kinds := [], alts := [], laidByText := true, laidKinds := [.data, .pinned], laidTests := true, laidLooks := .later }
def FnExactRowOfBoardUptoCardSaid : Prop := Claim7.holds Tryd.pinned (.plain (OpenSpec.upto fnExactRowOfBoardSpec)) fnExactRowOfBoardUptoCard

/-- THE SECOND FORM's CARD OF 'laws.FnExactSizeOfBoard'. -/
def fnExactSizeOfBoardUptoCard : Claim7 := { stood := { row := fnExactSizeOfBoardUptoRow, standIns := [], harness := (true, "7ec46fa21f3a98e7c39cd84b2743546081f34bd10e04f4d83743cbb653c4c324"), looks := false }, kinds := [], alts := [], laidByText := true, laidKinds := [.data, .pinned], laidTests := true, laidLooks := .later }
def FnExactSizeOfBoardUptoCardSaid : Prop := Claim7.holds Tryd.pinned (.plain (OpenSpec.upto fnExactSizeOfBoardSpec)) fnExactSizeOfBoardUptoCard

/-- THE SECOND FORM's CARD OF 'laws.FnExactWayOnBoard'. -/
def fnExactWayOnBoardUptoCard : Claim7 := { stood := { row := fnExactWayOnBoardUptoRow, standIns := [], harness := (true, "7ec46fa21f3a98e7c39cd84b2743546081f34bd10e04f4d83743cbb653c4c324"), looks := false }, kinds := [], alts := [], laidByText := true, laidKinds := [.data, .pinned], laidTests := true, laidLooks := .later }
def FnExactWayOnBoardUptoCardSaid : Prop := Claim7.holds Tryd.pinned (.plain (OpenSpec.upto fnExactWayOnBoardSpec)) fnExactWayOnBoardUptoCard

/-- THE SECOND FORM's CARD OF 'laws.FnExactLinesBefore'. -/
def fnExactLinesBeforeUptoCard : Claim7 := { stood := { row := fnExactLinesBeforeUptoRow, standIns := [], harness := (true, "7ec46fa21f3a98e7c39cd84b2743546081f34bd10e04f4d83743cbb653c4c324"), looks := false }, kinds := [], alts := [], laidByText := true, laidKinds := [.data, .pinned], laidTests := true, laidLooks := .later }
def FnExactLinesBeforeUptoCardSaid : Prop := Claim7.holds Tryd.pinned (.plain (OpenSpec.upto fnExactLinesBeforeSpec)) fnExactLinesBeforeUptoCard
end Rows
end Go.Proofs.YtpfahibbmkcnoaaDoor
