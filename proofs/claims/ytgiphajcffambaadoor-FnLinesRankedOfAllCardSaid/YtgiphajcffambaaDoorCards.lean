/-
  DERIVED. GIVEN WITH THE SEED: THE CARDS: each row of YtgiphajcffambaaDoorRows.lean that lists a variable, with what it lists TIED to the program's text (the seventh form; the later family's looks); each row that meets fmt, with fmt's text TOLD by the authors' own Lean function (tested against real Go, not proved from fmt's source: count such statements apart). THE CARD IS WHAT COUNTS. Prove the row's statement (the work); the ties are given (YtgiphajcffambaaDoorTie.lean); close each card by the builder's one call (the guide's Derived/Test/ToyasCard.lean, 'card_holds'). Laid BY PROGRAM, IN A SANDBOX (cutbox-door.mjs). By AI agents, Wed Nov 11 2026. No macro, syntax, notation, axiom, sorry.
-/
import Derived.Test.YtgiphajcffambaaDoorRows
import GoSem.ClaimSeven
namespace Go.Proofs.YtgiphajcffambaaDoor
namespace Rows

/-- THE TIED CARD OF 'laws.FnExactPlayOnRing'. -/
def fnExactPlayOnRingCard : Claim7 := { stood := { row := fnExactPlayOnRingRow, standIns := [], harness := (true, "6eb90177a7d94c61f5ce89c9ac5c0912befda76cec4ae62e504757c103461e38"), looks := false }, kinds := [], alts := [], laidByText := true, laidKinds := [.data, .pinned], laidTests := true, laidLooks := .later }
def FnExactPlayOnRingCardSaid : Prop := Claim7.holds Tryd.pinned (.plain (OpenSpec.ofChange fnExactPlayOnRingSpec)) fnExactPlayOnRingCard

/-- THE TIED CARD OF 'laws.FnExactPlayMoves'. -/
def fnExactPlayMovesCard : Claim7 := { stood := { row := fnExactPlayMovesRow, standIns := [], harness := (true, "6eb90177a7d94c61f5ce89c9ac5c0912befda76cec4ae62e504757c103461e38"), looks := false }, kinds := [], alts := [], laidByText := true, laidKinds := [.data, .pinned], laidTests := true, laidLooks := .later }
def FnExactPlayMovesCardSaid : Prop := Claim7.holds Tryd.pinned (.plain (OpenSpec.ofChange fnExactPlayMovesSpec)) fnExactPlayMovesCard

/-- THE TIED CARD OF 'laws.FnExactMoveThatFails'. -/
def fnExactMoveThatFailsCard : Claim7 := { stood := { row := fnExactMoveThatFailsRow, standIns := [], harness := (true, "6eb90177a7d94c61f5ce89c9ac5c0912befda76cec4ae62e504757c103461e38"), looks := false }, kinds := [], alts := [], laidByText := true, laidKinds := [.data, .pinned], laidTests := true, laidLooks := .later }
def FnExactMoveThatFailsCardSaid : Prop := Claim7.holds Tryd.pinned (.plain (OpenSpec.ofChange fnExactMoveThatFailsSpec)) fnExactMoveThatFailsCard

/-- THE TIED CARD OF 'laws.FnExactPlayByRule'. -/
def fnExactPlayByRuleCard : Claim7 := { stood := { row := fnExactPlayByRuleRow, standIns := [], harness := (true, "6eb90177a7d94c61f5ce89c9ac5c0912befda76cec4ae62e504757c103461e38"), looks := false }, kinds := [], alts := [], laidByText := true, laidKinds := [.data, .pinned], laidTests := true, laidLooks := .later }
def FnExactPlayByRuleCardSaid : Prop := Claim7.holds Tryd.pinned (.plain (OpenSpec.ofChange fnExactPlayByRuleSpec)) fnExactPlayByRuleCard

/-- THE TIED CARD OF 'laws.FnLinesRankedOfAll'. -/
def fnLinesRankedOfAllCard : Claim7 := { stood := { row := fnLinesRankedOfAllRow, standIns := [], harness := (true, "6eb90177a7d94c61f5ce89c9ac5c0912befda76cec4ae62e504757c103461e38"), looks := false }, kinds := [], alts := [], laidByText := true, laidKinds := [.data, .pinned], laidTests := true, laidLooks := .later }
def FnLinesRankedOfAllCardSaid : Prop := Claim7.holds Tryd.pinned (.plain (OpenSpec.ofChange fnLinesRankedOfAllSpec)) fnLinesRankedOfAllCard

/-- THE TIED CARD OF 'laws.FnExactRankOfLine'. -/
def fnExactRankOfLineCard : Claim7 := { stood := { row := fnExactRankOfLineRow, standIns := [], harness := (true, "6eb90177a7d94c61f5ce89c9ac5c0912befda76cec4ae62e504757c103461e38"), looks := false }, kinds := [], alts := [], laidByText := true, laidKinds := [.data, .pinned], laidTests := true, laidLooks := .later }
def FnExactRankOfLineCardSaid : Prop := Claim7.holds Tryd.pinned (.plain (OpenSpec.ofChange fnExactRankOfLineSpec)) fnExactRankOfLineCard

/-- THE TIED CARD OF 'laws.FnExactLastLine'. -/
def fnExactLastLineCard : Claim7 := { stood := { row := fnExactLastLineRow, standIns := [], harness := (true, "6eb90177a7d94c61f5ce89c9ac5c0912befda76cec4ae62e504757c103461e38"), looks := false }, kinds := [], alts := [], laidByText := true, laidKinds := [.data, .pinned], laidTests := true, laidLooks := .later }
def FnExactLastLineCardSaid : Prop := Claim7.holds Tryd.pinned (.plain (OpenSpec.ofChange fnExactLastLineSpec)) fnExactLastLineCard

/-- THE SECOND FORM's CARD OF 'laws.FnExactPlayOnRing'. -/
def fnExactPlayOnRingUptoCard : Claim7 := { stood := { row := fnExactPlayOnRingUptoRow, standIns := [], harness := (true, "6eb90177a7d94c61f5ce89c9ac5c0912befda76cec4ae62e504757c103461e38"), looks := false }, kinds := [], alts := [], laidByText := true, laidKinds := [.data, .pinned], laidTests := true, laidLooks := .later }
def FnExactPlayOnRingUptoCardSaid : Prop := Claim7.holds Tryd.pinned (.plain (OpenSpec.upto fnExactPlayOnRingSpec)) fnExactPlayOnRingUptoCard

/-- THE SECOND FORM's CARD OF 'laws.FnExactPlayMoves'. -/
def fnExactPlayMovesUptoCard : Claim7 := { stood := { row := fnExactPlayMovesUptoRow, standIns := [], harness := (true, "6eb90177a7d94c61f5ce89c9ac5c0912befda76cec4ae62e504757c103461e38"), looks := false }, kinds := [], alts := [], laidByText := true, laidKinds := [.data, .pinned], laidTests := true, laidLooks := .later }
def FnExactPlayMovesUptoCardSaid : Prop := Claim7.holds Tryd.pinned (.plain (OpenSpec.upto fnExactPlayMovesSpec)) fnExactPlayMovesUptoCard

/-- THE SECOND FORM's CARD OF 'laws.FnExactMoveThatFails'. -/
def fnExactMoveThatFailsUptoCard : Claim7 := { stood := { row := fnExactMoveThatFailsUptoRow, standIns := [], harness := (true, "6eb90177a7d94c61f5ce89c9ac5c0912befda76cec4ae62e504757c103461e38"), looks := false }, kinds := [], alts := [], laidByText := true, laidKinds := [.data, .pinned], laidTests := true, laidLooks := .later }
def FnExactMoveThatFailsUptoCardSaid : Prop := Claim7.holds Tryd.pinned (.plain (OpenSpec.upto fnExactMoveThatFailsSpec)) fnExactMoveThatFailsUptoCard

/-- THE SECOND FORM's CARD OF 'laws.FnExactPlayByRule'. -/
def fnExactPlayByRuleUptoCard : Claim7 := { stood := { row := fnExactPlayByRuleUptoRow, standIns := [], harness := (true, "6eb90177a7d94c61f5ce89c9ac5c0912befda76cec4ae62e504757c103461e38"), looks := false }, kinds := [], alts := [], laidByText := true, laidKinds := [.data, .pinned], laidTests := true, laidLooks := .later }
def FnExactPlayByRuleUptoCardSaid : Prop := Claim7.holds Tryd.pinned (.plain (OpenSpec.upto fnExactPlayByRuleSpec)) fnExactPlayByRuleUptoCard

/-- THE SECOND FORM's CARD OF 'laws.FnLinesRankedOfAll'. -/
def fnLinesRankedOfAllUptoCard : Claim7 := { stood := { row := fnLinesRankedOfAllUptoRow, standIns := [], harness := (true, "6eb90177a7d94c61f5ce89c9ac5c0912befda76cec4ae62e504757c103461e38"), looks := false }, kinds := [], alts := [], laidByText := true, laidKinds := [.data, .pinned], laidTests := true, laidLooks := .later }
def FnLinesRankedOfAllUptoCardSaid : Prop := Claim7.holds Tryd.pinned (.plain (OpenSpec.upto fnLinesRankedOfAllSpec)) fnLinesRankedOfAllUptoCard

/-- THE SECOND FORM's CARD OF 'laws.FnExactRankOfLine'. -/
def fnExactRankOfLineUptoCard : Claim7 := { stood := { row := fnExactRankOfLineUptoRow, standIns := [], harness := (true, "6eb90177a7d94c61f5ce89c9ac5c0912befda76cec4ae62e504757c103461e38"), looks := false }, kinds := [], alts := [], laidByText := true, laidKinds := [.data, .pinned], laidTests := true, laidLooks := .later }
def FnExactRankOfLineUptoCardSaid : Prop := Claim7.holds Tryd.pinned (.plain (OpenSpec.upto fnExactRankOfLineSpec)) fnExactRankOfLineUptoCard

/-- THE SECOND FORM's CARD OF 'laws.FnExactLastLine'. -/
def fnExactLastLineUptoCard : Claim7 := { stood := { row := fnExactLastLineUptoRow, standIns := [], harness := (true, "6eb90177a7d94c61f5ce89c9ac5c0912befda76cec4ae62e504757c103461e38"), looks := false }, kinds := [], alts := [], laidByText := true, laidKinds := [.data, .pinned], laidTests := true, laidLooks := .later }
def FnExactLastLineUptoCardSaid : Prop := Claim7.holds Tryd.pinned (.plain (OpenSpec.upto fnExactLastLineSpec)) fnExactLastLineUptoCard
end Rows
end Go.Proofs.YtgiphajcffambaaDoor
