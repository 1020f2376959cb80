/-
  DERIVED. GIVEN WITH THE SEED: THE CARDS: each row of YtdffgeoegdkiaaaGreatDoorRows.lean that lists a variable, with what it lists TIED to the program's text (the seventh form; the later family's looks); each row that meets fmt, with fmt's text TOLD by the authors' own Lean function (tested against real Go, not proved from fmt's source: count such statements apart). THE CARD IS WHAT COUNTS. Prove the row's statement (the work); the ties are given (YtdffgeoegdkiaaaGreatDoorTie.lean); close each card by the builder's one call (the guide's Derived/Test/ToyasCard.lean, 'card_holds'). Laid BY PROGRAM, IN A SANDBOX (cutbox-door.mjs). By AI agents, Wed Nov 11 2026. No macro, syntax, notation, axiom, sorry.
-/
import Derived.Test.YtdffgeoegdkiaaaGreatDoorRows
import GoSem.ClaimSeven
namespace Go.Proofs.YtdffgeoegdkiaaaGreatDoor
namespace Rows

/-- THE TIED CARD OF 'laws.FnExactWordsBack'. -/
def fnExactWordsBackCard : Claim7 := { stood := { row := fnExactWordsBackRow, standIns := [], harness := (true, "0ef4792a43038c90966eefac5cc5c8a39c0f02985fd67187c770f5f198030368"), looks := false }, kinds := [], alts := [], laidByText := true, laidKinds := [.data, .pinned], laidTests := true, laidLooks := .later }
def FnExactWordsBackCardSaid : Prop := Claim7.holds Tryz.pinned (.plain (OpenSpec.ofChange fnExactWordsBackSpec)) fnExactWordsBackCard

/-- THE TIED CARD OF 'laws.FnExactGateTable'. -/
def fnExactGateTableCard : Claim7 := { stood := { row := fnExactGateTableRow, standIns := [], harness := (true, "0ef4792a43038c90966eefac5cc5c8a39c0f02985fd67187c770f5f198030368"), looks := false }, kinds := [], alts := [], laidByText := true, laidKinds := [.data, .pinned], laidTests := true, laidLooks := .later }
def FnExactGateTableCardSaid : Prop := Claim7.holds Tryz.pinned (.plain (OpenSpec.ofChange fnExactGateTableSpec)) fnExactGateTableCard

/-- THE TIED CARD OF 'laws.FnExactSignOfWord'. -/
def fnExactSignOfWordCard : Claim7 := { stood := { row := fnExactSignOfWordRow, standIns := [], harness := (true, "0ef4792a43038c90966eefac5cc5c8a39c0f02985fd67187c770f5f198030368"), looks := false }, kinds := [], alts := [], laidByText := true, laidKinds := [.data, .pinned], laidTests := true, laidLooks := .later }
def FnExactSignOfWordCardSaid : Prop := Claim7.holds Tryz.pinned (.plain (OpenSpec.ofChange fnExactSignOfWordSpec)) fnExactSignOfWordCard

/-- THE TIED CARD OF 'laws.FnExactOrderOfWord'. -/
def fnExactOrderOfWordCard : Claim7 := { stood := { row := fnExactOrderOfWordRow, standIns := [], harness := (true, "0ef4792a43038c90966eefac5cc5c8a39c0f02985fd67187c770f5f198030368"), looks := false }, kinds := [], alts := [], laidByText := true, laidKinds := [.data, .pinned], laidTests := true, laidLooks := .later }
def FnExactOrderOfWordCardSaid : Prop := Claim7.holds Tryz.pinned (.plain (OpenSpec.ofChange fnExactOrderOfWordSpec)) fnExactOrderOfWordCard

/-- THE TIED CARD OF 'laws.FnExactGateNumber'. -/
def fnExactGateNumberCard : Claim7 := { stood := { row := fnExactGateNumberRow, standIns := [], harness := (true, "0ef4792a43038c90966eefac5cc5c8a39c0f02985fd67187c770f5f198030368"), looks := false }, kinds := [], alts := [], laidByText := true, laidKinds := [.data, .pinned], laidTests := true, laidLooks := .later }
def FnExactGateNumberCardSaid : Prop := Claim7.holds Tryz.pinned (.plain (OpenSpec.ofChange fnExactGateNumberSpec)) fnExactGateNumberCard

/-- THE TIED CARD OF 'laws.FnExactCyclesOfWord'. -/
def fnExactCyclesOfWordCard : Claim7 := { stood := { row := fnExactCyclesOfWordRow, standIns := [], harness := (true, "0ef4792a43038c90966eefac5cc5c8a39c0f02985fd67187c770f5f198030368"), looks := false }, kinds := [], alts := [], laidByText := true, laidKinds := [.data, .pinned], laidTests := true, laidLooks := .later }
def FnExactCyclesOfWordCardSaid : Prop := Claim7.holds Tryz.pinned (.plain (OpenSpec.ofChange fnExactCyclesOfWordSpec)) fnExactCyclesOfWordCard

/-- THE TIED CARD OF 'laws.FnExactCountGates'. -/
def fnExactCountGatesCard : Claim7 := { stood := { row := fnExactCountGatesRow, standIns := [], harness := (true, "0ef4792a43038c90966eefac5cc5c8a39c0f02985fd67187c770f5f198030368"), looks := false }, kinds := [], alts := [], laidByText := true, laidKinds := [.data, .pinned], laidTests := true, laidLooks := .later }
def FnExactCountGatesCardSaid : Prop := Claim7.holds Tryz.pinned (.plain (OpenSpec.ofChange fnExactCountGatesSpec)) fnExactCountGatesCard

/-- THE TIED CARD OF 'laws.FnExactWordForGate'. -/
def fnExactWordForGateCard : Claim7 := { stood := { row := fnExactWordForGateRow, standIns := [], harness := (true, "0ef4792a43038c90966eefac5cc5c8a39c0f02985fd67187c770f5f198030368"), looks := false }, kinds := [], alts := [], laidByText := true, laidKinds := [.data, .pinned], laidTests := true, laidLooks := .later }
def FnExactWordForGateCardSaid : Prop := Claim7.holds Tryz.pinned (.plain (OpenSpec.ofChange fnExactWordForGateSpec)) fnExactWordForGateCard

/-- THE TIED CARD OF 'laws.FnExactIsReversible'. -/
def fnExactIsReversibleCard : Claim7 := { stood := { row := fnExactIsReversibleRow, standIns := [], harness := (true, "0ef4792a43038c90966eefac5cc5c8a39c0f02985fd67187c770f5f198030368"), looks := false }, kinds := [], alts := [], laidByText := true, laidKinds := [.data, .pinned], laidTests := true, laidLooks := .later }
def FnExactIsReversibleCardSaid : Prop := Claim7.holds Tryz.pinned (.plain (OpenSpec.ofChange fnExactIsReversibleSpec)) fnExactIsReversibleCard

/-- THE TIED CARD OF 'laws.FnExactReplayOf'. -/
def fnExactReplayOfCard : Claim7 := { stood := { row := fnExactReplayOfRow, standIns := [], harness := (true, "0ef4792a43038c90966eefac5cc5c8a39c0f02985fd67187c770f5f198030368"), looks := false }, kinds := [], alts := [], laidByText := true, laidKinds := [.data, .pinned], laidTests := true, laidLooks := .later }
def FnExactReplayOfCardSaid : Prop := Claim7.holds Tryz.pinned (.plain (OpenSpec.ofChange fnExactReplayOfSpec)) fnExactReplayOfCard

/-- THE TIED CARD OF 'laws.FnExactCountCorner'. -/
def fnExactCountCornerCard : Claim7 := { stood := { row := fnExactCountCornerRow, standIns := [], harness := (true, "0ef4792a43038c90966eefac5cc5c8a39c0f02985fd67187c770f5f198030368"), looks := false }, kinds := [], alts := [], laidByText := true, laidKinds := [.data, .pinned], laidTests := true, laidLooks := .later }
def FnExactCountCornerCardSaid : Prop := Claim7.holds Tryz.pinned (.plain (OpenSpec.ofChange fnExactCountCornerSpec)) fnExactCountCornerCard

/-- THE TIED CARD OF 'laws.FnExactAllStill'. -/
def fnExactAllStillCard : Claim7 := { stood := { row := fnExactAllStillRow, standIns := [], harness := (true, "0ef4792a43038c90966eefac5cc5c8a39c0f02985fd67187c770f5f198030368"), looks := false }, kinds := [], alts := [], laidByText := true, laidKinds := [.data, .pinned], laidTests := true, laidLooks := .later }
def FnExactAllStillCardSaid : Prop := Claim7.holds Tryz.pinned (.plain (OpenSpec.ofChange fnExactAllStillSpec)) fnExactAllStillCard

/-- THE SECOND FORM's CARD OF 'laws.FnExactWordsBack'. -/
def fnExactWordsBackUptoCard : Claim7 := { stood := { row := fnExactWordsBackUptoRow, standIns := [], harness := (true, "0ef4792a43038c90966eefac5cc5c8a39c0f02985fd67187c770f5f198030368"), looks := false }, kinds := [], alts := [], laidByText := true, laidKinds := [.data, .pinned], laidTests := true, laidLooks := .later }
def FnExactWordsBackUptoCardSaid : Prop := Claim7.holds Tryz.pinned (.plain (OpenSpec.upto fnExactWordsBackSpec)) fnExactWordsBackUptoCard

/-- THE SECOND FORM's CARD OF 'laws.FnExactGateTable'. -/
def fnExactGateTableUptoCard : Claim7 := { stood := { row := fnExactGateTableUptoRow, standIns := [], harness := (true, "0ef4792a43038c90966eefac5cc5c8a39c0f02985fd67187c770f5f198030368"), looks := false }, kinds := [], alts := [], laidByText := true, laidKinds := [.data, .pinned], laidTests := true, laidLooks := .later }
def FnExactGateTableUptoCardSaid : Prop := Claim7.holds Tryz.pinned (.plain (OpenSpec.upto fnExactGateTableSpec)) fnExactGateTableUptoCard

/-- THE SECOND FORM's CARD OF 'laws.FnExactSignOfWord'. -/
def fnExactSignOfWordUptoCard : Claim7 := { stood := { row := fnExactSignOfWordUptoRow, standIns := [], harness := (true, "0ef4792a43038c90966eefac5cc5c8a39c0f02985fd67187c770f5f198030368"), looks := false }, kinds := [], alts := [], laidByText := true, laidKinds := [.data, .pinned], laidTests := true, laidLooks := .later }
def FnExactSignOfWordUptoCardSaid : Prop := Claim7.holds Tryz.pinned (.plain (OpenSpec.upto fnExactSignOfWordSpec)) fnExactSignOfWordUptoCard

/-- THE SECOND FORM's CARD OF 'laws.FnExactOrderOfWord'. -/
def fnExactOrderOfWordUptoCard : Claim7 := { stood := { row := fnExactOrderOfWordUptoRow, standIns := [], harness := (true, "0ef4792a43038c90966eefac5cc5c8a39c0f02985fd67187c770f5f198030368"), looks := false }, kinds := [], alts := [], laidByText := true, laidKinds := [.data, .pinned], laidTests := true, laidLooks := .later }
def FnExactOrderOfWordUptoCardSaid : Prop := Claim7.holds Tryz.pinned (.plain (OpenSpec.upto fnExactOrderOfWordSpec)) fnExactOrderOfWordUptoCard

/-- THE SECOND FORM's CARD OF 'laws.FnExactGateNumber'. -/
def fnExactGateNumberUptoCard : Claim7 := { stood := { row := fnExactGateNumberUptoRow, standIns := [], harness := (true, "0ef4792a43038c90966eefac5cc5c8a39c0f02985fd67187c770f5f198030368"), looks := false }, kinds := [], alts := [], laidByText := true, laidKinds := [.data, .pinned], laidTests := true, laidLooks := .later }
def FnExactGateNumberUptoCardSaid : Prop := Claim7.holds Tryz.pinned (.plain (OpenSpec.upto fnExactGateNumberSpec)) fnExactGateNumberUptoCard

/-- THE SECOND FORM's CARD OF 'laws.FnExactCyclesOfWord'. -/
def fnExactCyclesOfWordUptoCard : Claim7 := { stood := { row := fnExactCyclesOfWordUptoRow, standIns := [], harness := (true, "0ef4792a43038c90966eefac5cc5c8a39c0f02985fd67187c770f5f198030368"), looks := false }, kinds := [], alts := [], laidByText := true, laidKinds := [.data, .pinned], laidTests := true, laidLooks := .later }
def FnExactCyclesOfWordUptoCardSaid : Prop := Claim7.holds Tryz.pinned (.plain (OpenSpec.upto fnExactCyclesOfWordSpec)) fnExactCyclesOfWordUptoCard

/-- THE SECOND FORM's CARD OF 'laws.FnExactCountGates'. -/
def fnExactCountGatesUptoCard : Claim7 := { stood := { row := fnExactCountGatesUptoRow, standIns := [], harness := (true, "0ef4792a43038c90966eefac5cc5c8a39c0f02985fd67187c770f5f198030368"), looks := false }, kinds := [], alts := [], laidByText := true, laidKinds := [.data, .pinned], laidTests := true, laidLooks := .later }
def FnExactCountGatesUptoCardSaid : Prop := Claim7.holds Tryz.pinned (.plain (OpenSpec.upto fnExactCountGatesSpec)) fnExactCountGatesUptoCard

/-- THE SECOND FORM's CARD OF 'laws.FnExactWordForGate'. -/
def fnExactWordForGateUptoCard : Claim7 := { stood := { row := fnExactWordForGateUptoRow, standIns := [], harness := (true, "0ef4792a43038c90966eefac5cc5c8a39c0f02985fd67187c770f5f198030368"), looks := false }, kinds := [], alts := [], laidByText := true, laidKinds := [.data, .pinned], laidTests := true, laidLooks := .later }
def FnExactWordForGateUptoCardSaid : Prop := Claim7.holds Tryz.pinned (.plain (OpenSpec.upto fnExactWordForGateSpec)) fnExactWordForGateUptoCard

/-- THE SECOND FORM's CARD OF 'laws.FnExactIsReversible'. -/
def fnExactIsReversibleUptoCard : Claim7 := { stood := { row := fnExactIsReversibleUptoRow, standIns := [], harness := (true, "0ef4792a43038c90966eefac5cc5c8a39c0f02985fd67187c770f5f198030368"), looks := false }, kinds := [], alts := [], laidByText := true, laidKinds := [.data, .pinned], laidTests := true, laidLooks := .later }
def FnExactIsReversibleUptoCardSaid : Prop := Claim7.holds Tryz.pinned (.plain (OpenSpec.upto fnExactIsReversibleSpec)) fnExactIsReversibleUptoCard

/-- THE SECOND FORM's CARD OF 'laws.FnExactReplayOf'. -/
def fnExactReplayOfUptoCard : Claim7 := { stood := { row := fnExactReplayOfUptoRow, standIns := [], harness := (true, "0ef4792a43038c90966eefac5cc5c8a39c0f02985fd67187c770f5f198030368"), looks := false }, kinds := [], alts := [], laidByText := true, laidKinds := [.data, .pinned], laidTests := true, laidLooks := .later }
def FnExactReplayOfUptoCardSaid : Prop := Claim7.holds Tryz.pinned (.plain (OpenSpec.upto fnExactReplayOfSpec)) fnExactReplayOfUptoCard

/-- THE SECOND FORM's CARD OF 'laws.FnExactCountCorner'. -/
def fnExactCountCornerUptoCard : Claim7 := { stood := { row := fnExactCountCornerUptoRow, standIns := [], harness := (true, "0ef4792a43038c90966eefac5cc5c8a39c0f02985fd67187c770f5f198030368"), looks := false }, kinds := [], alts := [], laidByText := true, laidKinds := [.data, .pinned], laidTests := true, laidLooks := .later }
def FnExactCountCornerUptoCardSaid : Prop := Claim7.holds Tryz.pinned (.plain (OpenSpec.upto fnExactCountCornerSpec)) fnExactCountCornerUptoCard

/-- THE SECOND FORM's CARD OF 'laws.FnExactAllStill'. -/
def fnExactAllStillUptoCard : Claim7 := { stood := { row := fnExactAllStillUptoRow, standIns := [], harness := (true, "0ef4792a43038c90966eefac5cc5c8a39c0f02985fd67187c770f5f198030368"), looks := false }, kinds := [], alts := [], laidByText := true, laidKinds := [.data, .pinned], laidTests := true, laidLooks := .later }
def FnExactAllStillUptoCardSaid : Prop := Claim7.holds Tryz.pinned (.plain (OpenSpec.upto fnExactAllStillSpec)) fnExactAllStillUptoCard
end Rows
end Go.Proofs.YtdffgeoegdkiaaaGreatDoor
