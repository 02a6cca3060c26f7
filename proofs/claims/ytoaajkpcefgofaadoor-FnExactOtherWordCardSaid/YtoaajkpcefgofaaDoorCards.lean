/-
  DERIVED. GIVEN WITH THE SEED: THE CARDS: each row of YtoaajkpcefgofaaDoorRows.lean that lists a variable, with what it lists TIED to the program's text (the seventh form; the later family's looks); each row that meets fmt, with fmt's text TOLD by the authors' own Lean function (tested against real Go, not proved from fmt's source: count such statements apart). THE CARD IS WHAT COUNTS. Prove the row's statement (the work); the ties are given (YtoaajkpcefgofaaDoorTie.lean); close each card by the builder's one call (the guide's Derived/Test/ToyasCard.lean, 'card_holds'). Laid BY PROGRAM, IN A SANDBOX (cutbox-door.mjs). By AI agents, Wed Nov 11 2026. No macro, syntax, notation, axiom, sorry.
-/
import Derived.Test.YtoaajkpcefgofaaDoorRows
import GoSem.ClaimSeven
namespace Go.Proofs.YtoaajkpcefgofaaDoor
namespace Rows

/-- THE TIED CARD OF 'laws.FnExactIsWord'. -/
def fnExactIsWordCard : Claim7 := { stood := { row := fnExactIsWordRow, standIns := [], harness := (true, "1aec971c7155034658f84ed2e829eb24fdb11ddce7f4c7d4e508b60ec29773c9"), looks := false }, kinds := [], alts := [], laidByText := true, laidKinds := [.data, .pinned], laidTests := true, laidLooks := .later }
def FnExactIsWordCardSaid : Prop := Claim7.holds Tryd.pinned (.plain (OpenSpec.ofChange fnExactIsWordSpec)) fnExactIsWordCard

/-- THE TIED CARD OF 'laws.FnExactIsLine'. -/
def fnExactIsLineCard : Claim7 := { stood := { row := fnExactIsLineRow, standIns := [], harness := (true, "1aec971c7155034658f84ed2e829eb24fdb11ddce7f4c7d4e508b60ec29773c9"), looks := false }, kinds := [], alts := [], laidByText := true, laidKinds := [.data, .pinned], laidTests := true, laidLooks := .later }
def FnExactIsLineCardSaid : Prop := Claim7.holds Tryd.pinned (.plain (OpenSpec.ofChange fnExactIsLineSpec)) fnExactIsLineCard

/-- THE TIED CARD OF 'laws.FnExactIsRing'. -/
def fnExactIsRingCard : Claim7 := { stood := { row := fnExactIsRingRow, standIns := [], harness := (true, "1aec971c7155034658f84ed2e829eb24fdb11ddce7f4c7d4e508b60ec29773c9"), looks := false }, kinds := [], alts := [], laidByText := true, laidKinds := [.data, .pinned], laidTests := true, laidLooks := .later }
def FnExactIsRingCardSaid : Prop := Claim7.holds Tryd.pinned (.plain (OpenSpec.ofChange fnExactIsRingSpec)) fnExactIsRingCard

/-- THE TIED CARD OF 'laws.FnExactTurnRing'. -/
def fnExactTurnRingCard : Claim7 := { stood := { row := fnExactTurnRingRow, standIns := [], harness := (true, "1aec971c7155034658f84ed2e829eb24fdb11ddce7f4c7d4e508b60ec29773c9"), looks := false }, kinds := [], alts := [], laidByText := true, laidKinds := [.data, .pinned], laidTests := true, laidLooks := .later }
def FnExactTurnRingCardSaid : Prop := Claim7.holds Tryd.pinned (.plain (OpenSpec.ofChange fnExactTurnRingSpec)) fnExactTurnRingCard

/-- THE TIED CARD OF 'laws.FnExactMeetsOfRing'. -/
def fnExactMeetsOfRingCard : Claim7 := { stood := { row := fnExactMeetsOfRingRow, standIns := [], harness := (true, "1aec971c7155034658f84ed2e829eb24fdb11ddce7f4c7d4e508b60ec29773c9"), looks := false }, kinds := [], alts := [], laidByText := true, laidKinds := [.data, .pinned], laidTests := true, laidLooks := .later }
def FnExactMeetsOfRingCardSaid : Prop := Claim7.holds Tryd.pinned (.plain (OpenSpec.ofChange fnExactMeetsOfRingSpec)) fnExactMeetsOfRingCard

/-- THE TIED CARD OF 'laws.FnExactOtherWord'. -/
def fnExactOtherWordCard : Claim7 := { stood := { row := fnExactOtherWordRow, standIns := [], harness := (true, "1aec971c7155034658f84ed2e829eb24fdb11ddce7f4c7d4e508b60ec29773c9"), looks := false }, kinds := [], alts := [], laidByText := true, laidKinds := [.data, .pinned], laidTests := true, laidLooks := .later }
def FnExactOtherWordCardSaid : Prop := Claim7.holds Tryd.pinned (.plain (OpenSpec.ofChange fnExactOtherWordSpec)) fnExactOtherWordCard

/-- THE TIED CARD OF 'laws.FnExactLeastRing'. -/
def fnExactLeastRingCard : Claim7 := { stood := { row := fnExactLeastRingRow, standIns := [], harness := (true, "1aec971c7155034658f84ed2e829eb24fdb11ddce7f4c7d4e508b60ec29773c9"), looks := false }, kinds := [], alts := [], laidByText := true, laidKinds := [.data, .pinned], laidTests := true, laidLooks := .later }
def FnExactLeastRingCardSaid : Prop := Claim7.holds Tryd.pinned (.plain (OpenSpec.ofChange fnExactLeastRingSpec)) fnExactLeastRingCard

/-- THE TIED CARD OF 'laws.FnExactPairsToPass'. -/
def fnExactPairsToPassCard : Claim7 := { stood := { row := fnExactPairsToPassRow, standIns := [], harness := (true, "1aec971c7155034658f84ed2e829eb24fdb11ddce7f4c7d4e508b60ec29773c9"), looks := false }, kinds := [], alts := [], laidByText := true, laidKinds := [.data, .pinned], laidTests := true, laidLooks := .later }
def FnExactPairsToPassCardSaid : Prop := Claim7.holds Tryd.pinned (.plain (OpenSpec.ofChange fnExactPairsToPassSpec)) fnExactPairsToPassCard

/-- THE TIED CARD OF 'laws.FnExactRunsOfWord'. -/
def fnExactRunsOfWordCard : Claim7 := { stood := { row := fnExactRunsOfWordRow, standIns := [], harness := (true, "1aec971c7155034658f84ed2e829eb24fdb11ddce7f4c7d4e508b60ec29773c9"), looks := false }, kinds := [], alts := [], laidByText := true, laidKinds := [.data, .pinned], laidTests := true, laidLooks := .later }
def FnExactRunsOfWordCardSaid : Prop := Claim7.holds Tryd.pinned (.plain (OpenSpec.ofChange fnExactRunsOfWordSpec)) fnExactRunsOfWordCard

/-- THE TIED CARD OF 'laws.FnExactCountOf'. -/
def fnExactCountOfCard : Claim7 := { stood := { row := fnExactCountOfRow, standIns := [], harness := (true, "1aec971c7155034658f84ed2e829eb24fdb11ddce7f4c7d4e508b60ec29773c9"), looks := false }, kinds := [], alts := [], laidByText := true, laidKinds := [.data, .pinned], laidTests := true, laidLooks := .later }
def FnExactCountOfCardSaid : Prop := Claim7.holds Tryd.pinned (.plain (OpenSpec.ofChange fnExactCountOfSpec)) fnExactCountOfCard

/-- THE TIED CARD OF 'laws.FnExactWayToGo'. -/
def fnExactWayToGoCard : Claim7 := { stood := { row := fnExactWayToGoRow, standIns := [], harness := (true, "1aec971c7155034658f84ed2e829eb24fdb11ddce7f4c7d4e508b60ec29773c9"), looks := false }, kinds := [], alts := [], laidByText := true, laidKinds := [.data, .pinned], laidTests := true, laidLooks := .later }
def FnExactWayToGoCardSaid : Prop := Claim7.holds Tryd.pinned (.plain (OpenSpec.ofChange fnExactWayToGoSpec)) fnExactWayToGoCard

/-- THE SECOND FORM's CARD OF 'laws.FnExactIsWord'. -/
def fnExactIsWordUptoCard : Claim7 := { stood := { row := fnExactIsWordUptoRow, standIns := [], harness := (true, "1aec971c7155034658f84ed2e829eb24fdb11ddce7f4c7d4e508b60ec29773c9"), looks := false }, kinds := [], alts := [], laidByText := true, laidKinds := [.data, .pinned], laidTests := true, laidLooks := .later }
def FnExactIsWordUptoCardSaid : Prop := Claim7.holds Tryd.pinned (.plain (OpenSpec.upto fnExactIsWordSpec)) fnExactIsWordUptoCard

/-- THE SECOND FORM's CARD OF 'laws.FnExactIsLine'. -/
def fnExactIsLineUptoCard : Claim7 := { stood := { row := fnExactIsLineUptoRow, standIns := [], harness := (true, "1aec971c7155034658f84ed2e829eb24fdb11ddce7f4c7d4e508b60ec29773c9"), looks := false }, kinds := [], alts := [], laidByText := true, laidKinds := [.data, .pinned], laidTests := true, laidLooks := .later }
def FnExactIsLineUptoCardSaid : Prop := Claim7.holds Tryd.pinned (.plain (OpenSpec.upto fnExactIsLineSpec)) fnExactIsLineUptoCard

/-- THE SECOND FORM's CARD OF 'laws.FnExactIsRing'. -/
def fnExactIsRingUptoCard : Claim7 := { stood := { row := fnExactIsRingUptoRow, standIns := [], harness := (true, "1aec971c7155034658f84ed2e829eb24fdb11ddce7f4c7d4e508b60ec29773c9"), looks := false }, kinds := [], alts := [], laidByText := true, laidKinds := [.data, .pinned], laidTests := true, laidLooks := .later }
def FnExactIsRingUptoCardSaid : Prop := Claim7.holds Tryd.pinned (.plain (OpenSpec.upto fnExactIsRingSpec)) fnExactIsRingUptoCard

/-- THE SECOND FORM's CARD OF 'laws.FnExactTurnRing'. -/
def fnExactTurnRingUptoCard : Claim7 := { stood := { row := fnExactTurnRingUptoRow, standIns := [], harness := (true, "1aec971c7155034658f84ed2e829eb24fdb11ddce7f4c7d4e508b60ec29773c9"), looks := false }, kinds := [], alts := [], laidByText := true, laidKinds := [.data, .pinned], laidTests := true, laidLooks := .later }
def FnExactTurnRingUptoCardSaid : Prop := Claim7.holds Tryd.pinned (.plain (OpenSpec.upto fnExactTurnRingSpec)) fnExactTurnRingUptoCard

/-- THE SECOND FORM's CARD OF 'laws.FnExactMeetsOfRing'. -/
def fnExactMeetsOfRingUptoCard : Claim7 := { stood := { row := fnExactMeetsOfRingUptoRow, standIns := [], harness := (true, "1aec971c7155034658f84ed2e829eb24fdb11ddce7f4c7d4e508b60ec29773c9"), looks := false }, kinds := [], alts := [], laidByText := true, laidKinds := [.data, .pinned], laidTests := true, laidLooks := .later }
def FnExactMeetsOfRingUptoCardSaid : Prop := Claim7.holds Tryd.pinned (.plain (OpenSpec.upto fnExactMeetsOfRingSpec)) fnExactMeetsOfRingUptoCard

/-- THE SECOND FORM's CARD OF 'laws.FnExactOtherWord'. -/
def fnExactOtherWordUptoCard : Claim7 := { stood := { row := fnExactOtherWordUptoRow, standIns := [], harness := (true, "1aec971c7155034658f84ed2e829eb24fdb11ddce7f4c7d4e508b60ec29773c9"), looks := false }, kinds := [], alts := [], laidByText := true, laidKinds := [.data, .pinned], laidTests := true, laidLooks := .later }
def FnExactOtherWordUptoCardSaid : Prop := Claim7.holds Tryd.pinned (.plain (OpenSpec.upto fnExactOtherWordSpec)) fnExactOtherWordUptoCard

/-- THE SECOND FORM's CARD OF 'laws.FnExactLeastRing'. -/
def fnExactLeastRingUptoCard : Claim7 := { stood := { row := fnExactLeastRingUptoRow, standIns := [], harness := (true, "1aec971c7155034658f84ed2e829eb24fdb11ddce7f4c7d4e508b60ec29773c9"), looks := false }, kinds := [], alts := [], laidByText := true, laidKinds := [.data, .pinned], laidTests := true, laidLooks := .later }
def FnExactLeastRingUptoCardSaid : Prop := Claim7.holds Tryd.pinned (.plain (OpenSpec.upto fnExactLeastRingSpec)) fnExactLeastRingUptoCard

/-- THE SECOND FORM's CARD OF 'laws.FnExactPairsToPass'. -/
def fnExactPairsToPassUptoCard : Claim7 := { stood := { row := fnExactPairsToPassUptoRow, standIns := [], harness := (true, "1aec971c7155034658f84ed2e829eb24fdb11ddce7f4c7d4e508b60ec29773c9"), looks := false }, kinds := [], alts := [], laidByText := true, laidKinds := [.data, .pinned], laidTests := true, laidLooks := .later }
def FnExactPairsToPassUptoCardSaid : Prop := Claim7.holds Tryd.pinned (.plain (OpenSpec.upto fnExactPairsToPassSpec)) fnExactPairsToPassUptoCard

/-- THE SECOND FORM's CARD OF 'laws.FnExactRunsOfWord'. -/
def fnExactRunsOfWordUptoCard : Claim7 := { stood := { row := fnExactRunsOfWordUptoRow, standIns := [], harness := (true, "1aec971c7155034658f84ed2e829eb24fdb11ddce7f4c7d4e508b60ec29773c9"), looks := false }, kinds := [], alts := [], laidByText := true, laidKinds := [.data, .pinned], laidTests := true, laidLooks := .later }
def FnExactRunsOfWordUptoCardSaid : Prop := Claim7.holds Tryd.pinned (.plain (OpenSpec.upto fnExactRunsOfWordSpec)) fnExactRunsOfWordUptoCard

/-- THE SECOND FORM's CARD OF 'laws.FnExactCountOf'. -/
def fnExactCountOfUptoCard : Claim7 := { stood := { row := fnExactCountOfUptoRow, standIns := [], harness := (true, "1aec971c7155034658f84ed2e829eb24fdb11ddce7f4c7d4e508b60ec29773c9"), looks := false }, kinds := [], alts := [], laidByText := true, laidKinds := [.data, .pinned], laidTests := true, laidLooks := .later }
def FnExactCountOfUptoCardSaid : Prop := Claim7.holds Tryd.pinned (.plain (OpenSpec.upto fnExactCountOfSpec)) fnExactCountOfUptoCard

/-- THE SECOND FORM's CARD OF 'laws.FnExactWayToGo'. -/
def fnExactWayToGoUptoCard : Claim7 := { stood := { row := fnExactWayToGoUptoRow, standIns := [], harness := (true, "1aec971c7155034658f84ed2e829eb24fdb11ddce7f4c7d4e508b60ec29773c9"), looks := false }, kinds := [], alts := [], laidByText := true, laidKinds := [.data, .pinned], laidTests := true, laidLooks := .later }
def FnExactWayToGoUptoCardSaid : Prop := Claim7.holds Tryd.pinned (.plain (OpenSpec.upto fnExactWayToGoSpec)) fnExactWayToGoUptoCard
end Rows
end Go.Proofs.YtoaajkpcefgofaaDoor
