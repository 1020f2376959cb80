/-
  DERIVED. GIVEN WITH THE SEED: THE CARDS: each row of YtldhkbiomingbaaGreatDoorRows.lean that lists a variable, with what it lists TIED to the program's text (the seventh form; the later family's looks); each row that meets fmt, with fmt's text TOLD by the authors' own Lean function (tested against real Go, not proved from fmt's source: count such statements apart). THE CARD IS WHAT COUNTS. Prove the row's statement (the work); the ties are given (YtldhkbiomingbaaGreatDoorTie.lean); close each card by the builder's one call (the guide's Derived/Test/ToyasCard.lean, 'card_holds'). Laid BY PROGRAM, IN A SANDBOX (cutbox-door.mjs). By AI agents, Wed Nov 11 2026. No macro, syntax, notation, axiom, sorry.
-/
import Derived.Test.YtldhkbiomingbaaGreatDoorRows
import GoSem.ClaimSeven
namespace Go.Proofs.YtldhkbiomingbaaGreatDoor
namespace Rows

/-- THE TIED CARD OF 'laws.FnExactHardestGoal'. -/
def fnExactHardestGoalCard : Claim7 := { stood := { row := fnExactHardestGoalRow, standIns := [], harness := (true, "8d35bc0706a221a0d40e9b3798d16c86b911762f7dd15be0572f98ee9b6fa9ac"), looks := false }, kinds := [], alts := [], laidByText := true, laidKinds := [.data, .pinned], laidTests := true, laidLooks := .later }
def FnExactHardestGoalCardSaid : Prop := Claim7.holds Tryz.pinned (.plain (OpenSpec.ofChange fnExactHardestGoalSpec)) fnExactHardestGoalCard

/-- THE TIED CARD OF 'laws.FnExactLengthOf'. -/
def fnExactLengthOfCard : Claim7 := { stood := { row := fnExactLengthOfRow, standIns := [], harness := (true, "8d35bc0706a221a0d40e9b3798d16c86b911762f7dd15be0572f98ee9b6fa9ac"), looks := false }, kinds := [], alts := [], laidByText := true, laidKinds := [.data, .pinned], laidTests := true, laidLooks := .later }
def FnExactLengthOfCardSaid : Prop := Claim7.holds Tryz.pinned (.plain (OpenSpec.ofChange fnExactLengthOfSpec)) fnExactLengthOfCard

/-- THE TIED CARD OF 'laws.FnExactSolutionOf'. -/
def fnExactSolutionOfCard : Claim7 := { stood := { row := fnExactSolutionOfRow, standIns := [], harness := (true, "8d35bc0706a221a0d40e9b3798d16c86b911762f7dd15be0572f98ee9b6fa9ac"), looks := false }, kinds := [], alts := [], laidByText := true, laidKinds := [.data, .pinned], laidTests := true, laidLooks := .later }
def FnExactSolutionOfCardSaid : Prop := Claim7.holds Tryz.pinned (.plain (OpenSpec.ofChange fnExactSolutionOfSpec)) fnExactSolutionOfCard

/-- THE TIED CARD OF 'laws.FnExactCountSolutions'. -/
def fnExactCountSolutionsCard : Claim7 := { stood := { row := fnExactCountSolutionsRow, standIns := [], harness := (true, "8d35bc0706a221a0d40e9b3798d16c86b911762f7dd15be0572f98ee9b6fa9ac"), looks := false }, kinds := [], alts := [], laidByText := true, laidKinds := [.data, .pinned], laidTests := true, laidLooks := .later }
def FnExactCountSolutionsCardSaid : Prop := Claim7.holds Tryz.pinned (.plain (OpenSpec.ofChange fnExactCountSolutionsSpec)) fnExactCountSolutionsCard

/-- THE TIED CARD OF 'laws.FnExactAllSolutions'. -/
def fnExactAllSolutionsCard : Claim7 := { stood := { row := fnExactAllSolutionsRow, standIns := [], harness := (true, "8d35bc0706a221a0d40e9b3798d16c86b911762f7dd15be0572f98ee9b6fa9ac"), looks := false }, kinds := [], alts := [], laidByText := true, laidKinds := [.data, .pinned], laidTests := true, laidLooks := .later }
def FnExactAllSolutionsCardSaid : Prop := Claim7.holds Tryz.pinned (.plain (OpenSpec.ofChange fnExactAllSolutionsSpec)) fnExactAllSolutionsCard

/-- THE TIED CARD OF 'laws.FnExactNeedlessWalls'. -/
def fnExactNeedlessWallsCard : Claim7 := { stood := { row := fnExactNeedlessWallsRow, standIns := [], harness := (true, "8d35bc0706a221a0d40e9b3798d16c86b911762f7dd15be0572f98ee9b6fa9ac"), looks := false }, kinds := [], alts := [], laidByText := true, laidKinds := [.data, .pinned], laidTests := true, laidLooks := .later }
def FnExactNeedlessWallsCardSaid : Prop := Claim7.holds Tryz.pinned (.plain (OpenSpec.ofChange fnExactNeedlessWallsSpec)) fnExactNeedlessWallsCard

/-- THE TIED CARD OF 'laws.FnExactMakePuzzle'. -/
def fnExactMakePuzzleCard : Claim7 := { stood := { row := fnExactMakePuzzleRow, standIns := [], harness := (true, "8d35bc0706a221a0d40e9b3798d16c86b911762f7dd15be0572f98ee9b6fa9ac"), looks := false }, kinds := [], alts := [], laidByText := true, laidKinds := [.data, .pinned], laidTests := true, laidLooks := .later }
def FnExactMakePuzzleCardSaid : Prop := Claim7.holds Tryz.pinned (.plain (OpenSpec.ofChange fnExactMakePuzzleSpec)) fnExactMakePuzzleCard

/-- THE TIED CARD OF 'laws.FnExactReachedTrays'. -/
def fnExactReachedTraysCard : Claim7 := { stood := { row := fnExactReachedTraysRow, standIns := [], harness := (true, "8d35bc0706a221a0d40e9b3798d16c86b911762f7dd15be0572f98ee9b6fa9ac"), looks := false }, kinds := [], alts := [], laidByText := true, laidKinds := [.data, .pinned], laidTests := true, laidLooks := .later }
def FnExactReachedTraysCardSaid : Prop := Claim7.holds Tryz.pinned (.plain (OpenSpec.ofChange fnExactReachedTraysSpec)) fnExactReachedTraysCard

/-- THE TIED CARD OF 'laws.FnExactLastingTrays'. -/
def fnExactLastingTraysCard : Claim7 := { stood := { row := fnExactLastingTraysRow, standIns := [], harness := (true, "8d35bc0706a221a0d40e9b3798d16c86b911762f7dd15be0572f98ee9b6fa9ac"), looks := false }, kinds := [], alts := [], laidByText := true, laidKinds := [.data, .pinned], laidTests := true, laidLooks := .later }
def FnExactLastingTraysCardSaid : Prop := Claim7.holds Tryz.pinned (.plain (OpenSpec.ofChange fnExactLastingTraysSpec)) fnExactLastingTraysCard

/-- THE TIED CARD OF 'laws.FnExactCellsOfBall'. -/
def fnExactCellsOfBallCard : Claim7 := { stood := { row := fnExactCellsOfBallRow, standIns := [], harness := (true, "8d35bc0706a221a0d40e9b3798d16c86b911762f7dd15be0572f98ee9b6fa9ac"), looks := false }, kinds := [], alts := [], laidByText := true, laidKinds := [.data, .pinned], laidTests := true, laidLooks := .later }
def FnExactCellsOfBallCardSaid : Prop := Claim7.holds Tryz.pinned (.plain (OpenSpec.ofChange fnExactCellsOfBallSpec)) fnExactCellsOfBallCard

/-- THE TIED CARD OF 'laws.FnExactClassesReached'. -/
def fnExactClassesReachedCard : Claim7 := { stood := { row := fnExactClassesReachedRow, standIns := [], harness := (true, "8d35bc0706a221a0d40e9b3798d16c86b911762f7dd15be0572f98ee9b6fa9ac"), looks := false }, kinds := [], alts := [], laidByText := true, laidKinds := [.data, .pinned], laidTests := true, laidLooks := .later }
def FnExactClassesReachedCardSaid : Prop := Claim7.holds Tryz.pinned (.plain (OpenSpec.ofChange fnExactClassesReachedSpec)) fnExactClassesReachedCard

/-- THE SECOND FORM's CARD OF 'laws.FnExactHardestGoal'. -/
def fnExactHardestGoalUptoCard : Claim7 := { stood := { row := fnExactHardestGoalUptoRow, standIns := [], harness := (true, "8d35bc0706a221a0d40e9b3798d16c86b911762f7dd15be0572f98ee9b6fa9ac"), looks := false }, kinds := [], alts := [], laidByText := true, laidKinds := [.data, .pinned], laidTests := true, laidLooks := .later }
def FnExactHardestGoalUptoCardSaid : Prop := Claim7.holds Tryz.pinned (.plain (OpenSpec.upto fnExactHardestGoalSpec)) fnExactHardestGoalUptoCard

/-- THE SECOND FORM's CARD OF 'laws.FnExactLengthOf'. -/
def fnExactLengthOfUptoCard : Claim7 := { stood := { row := fnExactLengthOfUptoRow, standIns := [], harness := (true, "8d35bc0706a221a0d40e9b3798d16c86b911762f7dd15be0572f98ee9b6fa9ac"), looks := false }, kinds := [], alts := [], laidByText := true, laidKinds := [.data, .pinned], laidTests := true, laidLooks := .later }
def FnExactLengthOfUptoCardSaid : Prop := Claim7.holds Tryz.pinned (.plain (OpenSpec.upto fnExactLengthOfSpec)) fnExactLengthOfUptoCard

/-- THE SECOND FORM's CARD OF 'laws.FnExactSolutionOf'. -/
def fnExactSolutionOfUptoCard : Claim7 := { stood := { row := fnExactSolutionOfUptoRow, standIns := [], harness := (true, "8d35bc0706a221a0d40e9b3798d16c86b911762f7dd15be0572f98ee9b6fa9ac"), looks := false }, kinds := [], alts := [], laidByText := true, laidKinds := [.data, .pinned], laidTests := true, laidLooks := .later }
def FnExactSolutionOfUptoCardSaid : Prop := Claim7.holds Tryz.pinned (.plain (OpenSpec.upto fnExactSolutionOfSpec)) fnExactSolutionOfUptoCard

/-- THE SECOND FORM's CARD OF 'laws.FnExactCountSolutions'. -/
def fnExactCountSolutionsUptoCard : Claim7 := { stood := { row := fnExactCountSolutionsUptoRow, standIns := [], harness := (true, "8d35bc0706a221a0d40e9b3798d16c86b911762f7dd15be0572f98ee9b6fa9ac"), looks := false }, kinds := [], alts := [], laidByText := true, laidKinds := [.data, .pinned], laidTests := true, laidLooks := .later }
def FnExactCountSolutionsUptoCardSaid : Prop := Claim7.holds Tryz.pinned (.plain (OpenSpec.upto fnExactCountSolutionsSpec)) fnExactCountSolutionsUptoCard

/-- THE SECOND FORM's CARD OF 'laws.FnExactAllSolutions'. -/
def fnExactAllSolutionsUptoCard : Claim7 := { stood := { row := fnExactAllSolutionsUptoRow, standIns := [], harness := (true, "8d35bc0706a221a0d40e9b3798d16c86b911762f7dd15be0572f98ee9b6fa9ac"), looks := false }, kinds := [], alts := [], laidByText := true, laidKinds := [.data, .pinned], laidTests := true, laidLooks := .later }
def FnExactAllSolutionsUptoCardSaid : Prop := Claim7.holds Tryz.pinned (.plain (OpenSpec.upto fnExactAllSolutionsSpec)) fnExactAllSolutionsUptoCard

/-- THE SECOND FORM's CARD OF 'laws.FnExactNeedlessWalls'. -/
def fnExactNeedlessWallsUptoCard : Claim7 := { stood := { row := fnExactNeedlessWallsUptoRow, standIns := [], harness := (true, "8d35bc0706a221a0d40e9b3798d16c86b911762f7dd15be0572f98ee9b6fa9ac"), looks := false }, kinds := [], alts := [], laidByText := true, laidKinds := [.data, .pinned], laidTests := true, laidLooks := .later }
def FnExactNeedlessWallsUptoCardSaid : Prop := Claim7.holds Tryz.pinned (.plain (OpenSpec.upto fnExactNeedlessWallsSpec)) fnExactNeedlessWallsUptoCard

/-- THE SECOND FORM's CARD OF 'laws.FnExactMakePuzzle'. -/
def fnExactMakePuzzleUptoCard : Claim7 := { stood := { row := fnExactMakePuzzleUptoRow, standIns := [], harness := (true, "8d35bc0706a221a0d40e9b3798d16c86b911762f7dd15be0572f98ee9b6fa9ac"), looks := false }, kinds := [], alts := [], laidByText := true, laidKinds := [.data, .pinned], laidTests := true, laidLooks := .later }
def FnExactMakePuzzleUptoCardSaid : Prop := Claim7.holds Tryz.pinned (.plain (OpenSpec.upto fnExactMakePuzzleSpec)) fnExactMakePuzzleUptoCard

/-- THE SECOND FORM's CARD OF 'laws.FnExactReachedTrays'. -/
def fnExactReachedTraysUptoCard : Claim7 := { stood := { row := fnExactReachedTraysUptoRow, standIns := [], harness := (true, "8d35bc0706a221a0d40e9b3798d16c86b911762f7dd15be0572f98ee9b6fa9ac"), looks := false }, kinds := [], alts := [], laidByText := true, laidKinds := [.data, .pinned], laidTests := true, laidLooks := .later }
def FnExactReachedTraysUptoCardSaid : Prop := Claim7.holds Tryz.pinned (.plain (OpenSpec.upto fnExactReachedTraysSpec)) fnExactReachedTraysUptoCard

/-- THE SECOND FORM's CARD OF 'laws.FnExactLastingTrays'. -/
def fnExactLastingTraysUptoCard : Claim7 := { stood := { row := fnExactLastingTraysUptoRow, standIns := [], harness := (true, "8d35bc0706a221a0d40e9b3798d16c86b911762f7dd15be0572f98ee9b6fa9ac"), looks := false }, kinds := [], alts := [], laidByText := true, laidKinds := [.data, .pinned], laidTests := true, laidLooks := .later }
def FnExactLastingTraysUptoCardSaid : Prop := Claim7.holds Tryz.pinned (.plain (OpenSpec.upto fnExactLastingTraysSpec)) fnExactLastingTraysUptoCard

/-- THE SECOND FORM's CARD OF 'laws.FnExactCellsOfBall'. -/
def fnExactCellsOfBallUptoCard : Claim7 := { stood := { row := fnExactCellsOfBallUptoRow, standIns := [], harness := (true, "8d35bc0706a221a0d40e9b3798d16c86b911762f7dd15be0572f98ee9b6fa9ac"), looks := false }, kinds := [], alts := [], laidByText := true, laidKinds := [.data, .pinned], laidTests := true, laidLooks := .later }
def FnExactCellsOfBallUptoCardSaid : Prop := Claim7.holds Tryz.pinned (.plain (OpenSpec.upto fnExactCellsOfBallSpec)) fnExactCellsOfBallUptoCard

/-- THE SECOND FORM's CARD OF 'laws.FnExactClassesReached'. -/
def fnExactClassesReachedUptoCard : Claim7 := { stood := { row := fnExactClassesReachedUptoRow, standIns := [], harness := (true, "8d35bc0706a221a0d40e9b3798d16c86b911762f7dd15be0572f98ee9b6fa9ac"), looks := false }, kinds := [], alts := [], laidByText := true, laidKinds := [.data, .pinned], laidTests := true, laidLooks := .later }
def FnExactClassesReachedUptoCardSaid : Prop := Claim7.holds Tryz.pinned (.plain (OpenSpec.upto fnExactClassesReachedSpec)) fnExactClassesReachedUptoCard
end Rows
end Go.Proofs.YtldhkbiomingbaaGreatDoor
