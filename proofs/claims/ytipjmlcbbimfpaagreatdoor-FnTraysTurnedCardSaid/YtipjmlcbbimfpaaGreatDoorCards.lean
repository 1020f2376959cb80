/-
  DERIVED. GIVEN WITH THE SEED: THE CARDS: each row of YtipjmlcbbimfpaaGreatDoorRows.lean that lists a variable, with what it lists TIED to the program's text (the seventh form; the later family's looks); each row that meets fmt, with fmt's text TOLD by the authors' own Lean function (tested against real Go, not proved from fmt's source: count such statements apart). THE CARD IS WHAT COUNTS. Prove the row's statement (the work); the ties are given (YtipjmlcbbimfpaaGreatDoorTie.lean); close each card by the builder's one call (the guide's Derived/Test/ToyasCard.lean, 'card_holds'). Laid BY PROGRAM, IN A SANDBOX (cutbox-door.mjs). By AI agents, Wed Nov 11 2026. No macro, syntax, notation, axiom, sorry.
-/
import Derived.Test.YtipjmlcbbimfpaaGreatDoorRows
import GoSem.ClaimSeven
namespace Go.Proofs.YtipjmlcbbimfpaaGreatDoor
namespace Rows

/-- THE TIED CARD OF 'laws.FnTraysTurned'. -/
def fnTraysTurnedCard : Claim7 := { stood := { row := fnTraysTurnedRow, standIns := [], harness := (true, "fa7394b1c7ea228609221e37cb47981b75d84019755413261c5f82843bc5a1ae"), looks := false }, kinds := [], alts := [], laidByText := true, laidKinds := [.data, .pinned], laidTests := true, laidLooks := .later }
def FnTraysTurnedCardSaid : Prop := Claim7.holds Tryz.pinned (.plain (OpenSpec.ofChange fnTraysTurnedSpec)) fnTraysTurnedCard

/-- THE TIED CARD OF 'laws.FnTraysChanged'. -/
def fnTraysChangedCard : Claim7 := { stood := { row := fnTraysChangedRow, standIns := [], harness := (true, "fa7394b1c7ea228609221e37cb47981b75d84019755413261c5f82843bc5a1ae"), looks := false }, kinds := [], alts := [], laidByText := true, laidKinds := [.data, .pinned], laidTests := true, laidLooks := .later }
def FnTraysChangedCardSaid : Prop := Claim7.holds Tryz.pinned (.plain (OpenSpec.ofChange fnTraysChangedSpec)) fnTraysChangedCard

/-- THE TIED CARD OF 'laws.FnStickyTilts'. -/
def fnStickyTiltsCard : Claim7 := { stood := { row := fnStickyTiltsRow, standIns := [], harness := (true, "fa7394b1c7ea228609221e37cb47981b75d84019755413261c5f82843bc5a1ae"), looks := false }, kinds := [], alts := [], laidByText := true, laidKinds := [.data, .pinned], laidTests := true, laidLooks := .later }
def FnStickyTiltsCardSaid : Prop := Claim7.holds Tryz.pinned (.plain (OpenSpec.ofChange fnStickyTiltsSpec)) fnStickyTiltsCard

/-- THE SECOND FORM's CARD OF 'laws.FnTraysTurned'. -/
def fnTraysTurnedUptoCard : Claim7 := { stood := { row := fnTraysTurnedUptoRow, standIns := [], harness := (true, "fa7394b1c7ea228609221e37cb47981b75d84019755413261c5f82843bc5a1ae"), looks := false }, kinds := [], alts := [], laidByText := true, laidKinds := [.data, .pinned], laidTests := true, laidLooks := .later }
def FnTraysTurnedUptoCardSaid : Prop := Claim7.holds Tryz.pinned (.plain (OpenSpec.upto fnTraysTurnedSpec)) fnTraysTurnedUptoCard

/-- THE SECOND FORM's CARD OF 'laws.FnTraysChanged'. -/
def fnTraysChangedUptoCard : Claim7 := { stood := { row := fnTraysChangedUptoRow, standIns := [], harness := (true, "fa7394b1c7ea228609221e37cb47981b75d84019755413261c5f82843bc5a1ae"), looks := false }, kinds := [], alts := [], laidByText := true, laidKinds := [.data, .pinned], laidTests := true, laidLooks := .later }
def FnTraysChangedUptoCardSaid : Prop := Claim7.holds Tryz.pinned (.plain (OpenSpec.upto fnTraysChangedSpec)) fnTraysChangedUptoCard

/-- THE SECOND FORM's CARD OF 'laws.FnStickyTilts'. -/
def fnStickyTiltsUptoCard : Claim7 := { stood := { row := fnStickyTiltsUptoRow, standIns := [], harness := (true, "fa7394b1c7ea228609221e37cb47981b75d84019755413261c5f82843bc5a1ae"), looks := false }, kinds := [], alts := [], laidByText := true, laidKinds := [.data, .pinned], laidTests := true, laidLooks := .later }
def FnStickyTiltsUptoCardSaid : Prop := Claim7.holds Tryz.pinned (.plain (OpenSpec.upto fnStickyTiltsSpec)) fnStickyTiltsUptoCard
end Rows
end Go.Proofs.YtipjmlcbbimfpaaGreatDoor
