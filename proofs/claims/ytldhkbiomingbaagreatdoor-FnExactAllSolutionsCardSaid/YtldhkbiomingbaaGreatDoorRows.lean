/-
  NARROWER THAN 'FOR EVERY INPUT', by the rows' own cells (each row's printed sentence says how): FnExactHardestGoal: laid · FnExactLengthOf: laid · FnExactSolutionOf: laid · FnExactCountSolutions: laid · FnExactAllSolutions: laid · FnExactNeedlessWalls: laid · FnExactMakePuzzle: laid · FnExactReachedTrays: laid · FnExactLastingTrays: laid · FnExactCellsOfBall: laid · FnExactClassesReached: laid.
  DERIVED. THE GIVEN ROWS OF THIS SEAT. 11 by the template 'for every input the law returns true; each argument reads behind the call as it read before'; 0 by the template 'total and deterministic' (their statements: YtldhkbiomingbaaGreatDoorTotals.lean).
  GIVEN WITH THE SEED: the statements are not yours to turn. If you find one false, say at which input.
  Laid BY PROGRAM, IN A SANDBOX (cutbox-rows.mjs): the forced cells as the released guide's own fill.sh prints them over the translation 4a3e8bbd0261f9df… (all of the seat's roots in one cut). By AI agents, Wed Nov 11 2026. No macro, syntax, notation, axiom, sorry.
-/
import Derived.Test.YtldhkbiomingbaaGreatDoorChecked
import GoSem.PinnedTables
import GoSem.Claim
import GoSem.ClaimJoined
import GoSem.ClaimMapViews
import Derived.JoinedTies
import Derived.KernelRfl
namespace Go.Proofs.YtldhkbiomingbaaGreatDoor
/- THE CELL 'sum', in the pinned program and in every row, IS THE sha256 OF THE DUMP (.gsa) THAT YtldhkbiomingbaaGreatDoorProg.lean LOADS. Nothing in Lean hashes anything: it is a label: what it is worth is what the hold of that sum in a sandbox is worth. -/
noncomputable def Tryz.pinned : Pinned := { name := "ytldhkbiomingbaagreatdoor", sum := "4a3e8bbd0261f9df9c88c78dd94e977ad4d2a1c0e114df39adfb2998c01d9114", checked := Tryz.checked }
namespace Rows
def none {H : Type} : Left H := { results := [], args := [] }

/- WHAT THE LISTED PACKAGE-LEVEL VARIABLES READ AS WHEN THE CALL BEGINS. Each datum BY PROGRAM (the guide's laid-datum.mjs) off the statement by which the dump's own 'gosem.cut.vars' lays the variable. In a bare row this is a premise. The card (YtldhkbiomingbaaGreatDoorCards.lean) ties it to the program's text. -/
def laid_unicode_utf8_acceptRanges {H : Type} : DataW H := .agg [.agg [.lit (.int .u8 128), .lit (.int .u8 191)], .agg [.lit (.int .u8 160), .lit (.int .u8 191)], .agg [.lit (.int .u8 128), .lit (.int .u8 159)], .agg [.lit (.int .u8 144), .lit (.int .u8 191)], .agg [.lit (.int .u8 128), .lit (.int .u8 143)], .agg [.lit (.int .u8 0), .lit (.int .u8 0)], .agg [.lit (.int .u8 0), .lit (.int .u8 0)], .agg [.lit (.int .u8 0), .lit (.int .u8 0)], .agg [.lit (.int .u8 0), .lit (.int .u8 0)], .agg [.lit (.int .u8 0), .lit (.int .u8 0)], .agg [.lit (.int .u8 0), .lit (.int .u8 0)], .agg [.lit (.int .u8 0), .lit (.int .u8 0)], .agg [.lit (.int .u8 0), .lit (.int .u8 0)], .agg [.lit (.int .u8 0), .lit (.int .u8 0)], .agg [.lit (.int .u8 0), .lit (.int .u8 0)], .agg [.lit (.int .u8 0), .lit (.int .u8 0)]]
/-- One of Go's own tables, pinned by name: the form's constant. -/
def laid_unicode_utf8_first : DataW Unit := Go.Pinned.utf8First

/-- 'laws.FnExactHardestGoal': WHATEVER THE INPUT: true; the input reads as it did. -/
def fnExactHardestGoalSpec : ChangeSpec := { name := "fnExactHardestGoal", fn := fun _ => fun
  | [d1, d2] => { results := [.lit (.bool true)], args := [d1, d2] }
  | _ => none }
def fnExactHardestGoalRow : OpenClaim := { program := "ytldhkbiomingbaagreatdoor", sum := "4a3e8bbd0261f9df9c88c78dd94e977ad4d2a1c0e114df39adfb2998c01d9114", func := "loop.example/g01199/laws.FnExactHardestGoal", spec := "fnExactHardestGoal", inPlace := ["internal/bytealg.CountString", "internal/bytealg.IndexByteString", "internal/bytealg.IndexString", "internal/abi.NoEscape", "internal/bytealg.MakeNoZero"], unfollowed := true, recurses := true, named := ["unicode/utf8.first", "unicode/utf8.acceptRanges", "internal/bytealg.MaxLen"], apart := false, laid := [("unicode/utf8.acceptRanges", laid_unicode_utf8_acceptRanges), ("unicode/utf8.first", laid_unicode_utf8_first)] }
def FnExactHardestGoalSaid : Prop := fnExactHardestGoalRow.holds Tryz.pinned (OpenSpec.ofChange fnExactHardestGoalSpec)

/-- ITS FALSE NEIGHBOUR: 'it returns false'. Refute it at one input. -/
def fnExactHardestGoalWrong : ChangeSpec := { name := "fnExactHardestGoal", fn := fun _ => fun
  | [d1, d2] => { results := [.lit (.bool false)], args := [d1, d2] }
  | _ => none }
def FnExactHardestGoalWrongFalsely : Prop := fnExactHardestGoalRow.holds Tryz.pinned (OpenSpec.ofChange fnExactHardestGoalWrong)

/-- 'laws.FnExactLengthOf': WHATEVER THE INPUT: true; the input reads as it did. -/
def fnExactLengthOfSpec : ChangeSpec := { name := "fnExactLengthOf", fn := fun _ => fun
  | [d] => { results := [.lit (.bool true)], args := [d] }
  | _ => none }
def fnExactLengthOfRow : OpenClaim := { program := "ytldhkbiomingbaagreatdoor", sum := "4a3e8bbd0261f9df9c88c78dd94e977ad4d2a1c0e114df39adfb2998c01d9114", func := "loop.example/g01199/laws.FnExactLengthOf", spec := "fnExactLengthOf", inPlace := ["internal/bytealg.CountString", "internal/bytealg.IndexByteString", "internal/bytealg.IndexString", "internal/abi.NoEscape", "internal/bytealg.MakeNoZero"], unfollowed := true, recurses := true, named := ["unicode/utf8.first", "unicode/utf8.acceptRanges", "internal/bytealg.MaxLen"], apart := false, laid := [("unicode/utf8.acceptRanges", laid_unicode_utf8_acceptRanges), ("unicode/utf8.first", laid_unicode_utf8_first)] }
def FnExactLengthOfSaid : Prop := fnExactLengthOfRow.holds Tryz.pinned (OpenSpec.ofChange fnExactLengthOfSpec)

/-- ITS FALSE NEIGHBOUR: 'it returns false'. Refute it at one input. -/
def fnExactLengthOfWrong : ChangeSpec := { name := "fnExactLengthOf", fn := fun _ => fun
  | [d] => { results := [.lit (.bool false)], args := [d] }
  | _ => none }
def FnExactLengthOfWrongFalsely : Prop := fnExactLengthOfRow.holds Tryz.pinned (OpenSpec.ofChange fnExactLengthOfWrong)

/-- 'laws.FnExactSolutionOf': WHATEVER THE INPUT: true; the input reads as it did. -/
def fnExactSolutionOfSpec : ChangeSpec := { name := "fnExactSolutionOf", fn := fun _ => fun
  | [d] => { results := [.lit (.bool true)], args := [d] }
  | _ => none }
def fnExactSolutionOfRow : OpenClaim := { program := "ytldhkbiomingbaagreatdoor", sum := "4a3e8bbd0261f9df9c88c78dd94e977ad4d2a1c0e114df39adfb2998c01d9114", func := "loop.example/g01199/laws.FnExactSolutionOf", spec := "fnExactSolutionOf", inPlace := ["internal/bytealg.CountString", "internal/bytealg.IndexByteString", "internal/bytealg.IndexString", "internal/abi.NoEscape", "internal/bytealg.MakeNoZero"], unfollowed := true, recurses := true, named := ["unicode/utf8.first", "unicode/utf8.acceptRanges", "internal/bytealg.MaxLen"], apart := false, laid := [("unicode/utf8.acceptRanges", laid_unicode_utf8_acceptRanges), ("unicode/utf8.first", laid_unicode_utf8_first)] }
def FnExactSolutionOfSaid : Prop := fnExactSolutionOfRow.holds Tryz.pinned (OpenSpec.ofChange fnExactSolutionOfSpec)

/-- ITS FALSE NEIGHBOUR: 'it returns false'. Refute it at one input. -/
def fnExactSolutionOfWrong : ChangeSpec := { name := "fnExactSolutionOf", fn := fun _ => fun
  | [d] => { results := [.lit (.bool false)], args := [d] }
  | _ => none }
def FnExactSolutionOfWrongFalsely : Prop := fnExactSolutionOfRow.holds Tryz.pinned (OpenSpec.ofChange fnExactSolutionOfWrong)

/-- 'laws.FnExactCountSolutions': WHATEVER THE INPUT: true; the input reads as it did. -/
def fnExactCountSolutionsSpec : ChangeSpec := { name := "fnExactCountSolutions", fn := fun _ => fun
  | [d] => { results := [.lit (.bool true)], args := [d] }
  | _ => none }
def fnExactCountSolutionsRow : OpenClaim := { program := "ytldhkbiomingbaagreatdoor", sum := "4a3e8bbd0261f9df9c88c78dd94e977ad4d2a1c0e114df39adfb2998c01d9114", func := "loop.example/g01199/laws.FnExactCountSolutions", spec := "fnExactCountSolutions", inPlace := ["internal/bytealg.CountString", "internal/bytealg.IndexByteString", "internal/bytealg.IndexString", "internal/abi.NoEscape", "internal/bytealg.MakeNoZero"], unfollowed := true, recurses := true, named := ["unicode/utf8.first", "unicode/utf8.acceptRanges", "internal/bytealg.MaxLen"], apart := false, laid := [("unicode/utf8.acceptRanges", laid_unicode_utf8_acceptRanges), ("unicode/utf8.first", laid_unicode_utf8_first)] }
def FnExactCountSolutionsSaid : Prop := fnExactCountSolutionsRow.holds Tryz.pinned (OpenSpec.ofChange fnExactCountSolutionsSpec)

/-- ITS FALSE NEIGHBOUR: 'it returns false'. Refute it at one input. -/
def fnExactCountSolutionsWrong : ChangeSpec := { name := "fnExactCountSolutions", fn := fun _ => fun
  | [d] => { results := [.lit (.bool false)], args := [d] }
  | _ => none }
def FnExactCountSolutionsWrongFalsely : Prop := fnExactCountSolutionsRow.holds Tryz.pinned (OpenSpec.ofChange fnExactCountSolutionsWrong)

/-- 'laws.FnExactAllSolutions': WHATEVER THE INPUT: true; the input reads as it did. -/
def fnExactAllSolutionsSpec : ChangeSpec := { name := "fnExactAllSolutions", fn := fun _ => fun
  | [d] => { results := [.lit (.bool true)], args := [d] }
  | _ => none }
def fnExactAllSolutionsRow : OpenClaim := { program := "ytldhkbiomingbaagreatdoor", sum := "4a3e8bbd0261f9df9c88c78dd94e977ad4d2a1c0e114df39adfb2998c01d9114", func := "loop.example/g01199/laws.FnExactAllSolutions", spec := "fnExactAllSolutions", inPlace := ["internal/bytealg.CountString", "internal/bytealg.IndexByteString", "internal/bytealg.IndexString", "internal/abi.NoEscape", "internal/bytealg.MakeNoZero"], unfollowed := true, recurses := true, named := ["unicode/utf8.first", "unicode/utf8.acceptRanges", "internal/bytealg.MaxLen"], apart := false, laid := [("unicode/utf8.acceptRanges", laid_unicode_utf8_acceptRanges), ("unicode/utf8.first", laid_unicode_utf8_first)] }
def FnExactAllSolutionsSaid : Prop := fnExactAllSolutionsRow.holds Tryz.pinned (OpenSpec.ofChange fnExactAllSolutionsSpec)

/-- ITS FALSE NEIGHBOUR: 'it returns false'. Refute it at one input. -/
def fnExactAllSolutionsWrong : ChangeSpec := { name := "fnExactAllSolutions", fn := fun _ => fun
  | [d] => { results := [.lit (.bool false)], args := [d] }
  | _ => none }
def FnExactAllSolutionsWrongFalsely : Prop := fnExactAllSolutionsRow.holds Tryz.pinned (OpenSpec.ofChange fnExactAllSolutionsWrong)

/-- 'laws.FnExactNeedlessWalls': WHATEVER THE INPUT: true; the input reads as it did. -/
def fnExactNeedlessWallsSpec : ChangeSpec := { name := "fnExactNeedlessWalls", fn := fun _ => fun
  | [d] => { results := [.lit (.bool true)], args := [d] }
  | _ => none }
def fnExactNeedlessWallsRow : OpenClaim := { program := "ytldhkbiomingbaagreatdoor", sum := "4a3e8bbd0261f9df9c88c78dd94e977ad4d2a1c0e114df39adfb2998c01d9114", func := "loop.example/g01199/laws.FnExactNeedlessWalls", spec := "fnExactNeedlessWalls", inPlace := ["internal/bytealg.CountString", "internal/bytealg.IndexByteString", "internal/bytealg.IndexString", "internal/abi.NoEscape", "internal/bytealg.MakeNoZero"], unfollowed := true, recurses := true, named := ["unicode/utf8.first", "unicode/utf8.acceptRanges", "internal/bytealg.MaxLen"], apart := false, laid := [("unicode/utf8.acceptRanges", laid_unicode_utf8_acceptRanges), ("unicode/utf8.first", laid_unicode_utf8_first)] }
def FnExactNeedlessWallsSaid : Prop := fnExactNeedlessWallsRow.holds Tryz.pinned (OpenSpec.ofChange fnExactNeedlessWallsSpec)

/-- ITS FALSE NEIGHBOUR: 'it returns false'. Refute it at one input. -/
def fnExactNeedlessWallsWrong : ChangeSpec := { name := "fnExactNeedlessWalls", fn := fun _ => fun
  | [d] => { results := [.lit (.bool false)], args := [d] }
  | _ => none }
def FnExactNeedlessWallsWrongFalsely : Prop := fnExactNeedlessWallsRow.holds Tryz.pinned (OpenSpec.ofChange fnExactNeedlessWallsWrong)

/-- 'laws.FnExactMakePuzzle': WHATEVER THE INPUT: true; the input reads as it did. -/
def fnExactMakePuzzleSpec : ChangeSpec := { name := "fnExactMakePuzzle", fn := fun _ => fun
  | [d1, d2, d3] => { results := [.lit (.bool true)], args := [d1, d2, d3] }
  | _ => none }
def fnExactMakePuzzleRow : OpenClaim := { program := "ytldhkbiomingbaagreatdoor", sum := "4a3e8bbd0261f9df9c88c78dd94e977ad4d2a1c0e114df39adfb2998c01d9114", func := "loop.example/g01199/laws.FnExactMakePuzzle", spec := "fnExactMakePuzzle", inPlace := ["internal/abi.NoEscape", "internal/bytealg.MakeNoZero", "internal/bytealg.CountString", "internal/bytealg.IndexByteString", "internal/bytealg.IndexString"], unfollowed := true, recurses := true, named := ["unicode/utf8.first", "unicode/utf8.acceptRanges", "internal/bytealg.MaxLen"], apart := false, laid := [("unicode/utf8.acceptRanges", laid_unicode_utf8_acceptRanges), ("unicode/utf8.first", laid_unicode_utf8_first)] }
def FnExactMakePuzzleSaid : Prop := fnExactMakePuzzleRow.holds Tryz.pinned (OpenSpec.ofChange fnExactMakePuzzleSpec)

/-- ITS FALSE NEIGHBOUR: 'it returns false'. Refute it at one input. -/
def fnExactMakePuzzleWrong : ChangeSpec := { name := "fnExactMakePuzzle", fn := fun _ => fun
  | [d1, d2, d3] => { results := [.lit (.bool false)], args := [d1, d2, d3] }
  | _ => none }
def FnExactMakePuzzleWrongFalsely : Prop := fnExactMakePuzzleRow.holds Tryz.pinned (OpenSpec.ofChange fnExactMakePuzzleWrong)

/-- 'laws.FnExactReachedTrays': WHATEVER THE INPUT: true; the input reads as it did. -/
def fnExactReachedTraysSpec : ChangeSpec := { name := "fnExactReachedTrays", fn := fun _ => fun
  | [d] => { results := [.lit (.bool true)], args := [d] }
  | _ => none }
def fnExactReachedTraysRow : OpenClaim := { program := "ytldhkbiomingbaagreatdoor", sum := "4a3e8bbd0261f9df9c88c78dd94e977ad4d2a1c0e114df39adfb2998c01d9114", func := "loop.example/g01199/laws.FnExactReachedTrays", spec := "fnExactReachedTrays", inPlace := ["internal/bytealg.CountString", "internal/bytealg.IndexByteString", "internal/bytealg.IndexString", "internal/abi.NoEscape", "internal/bytealg.MakeNoZero"], unfollowed := true, recurses := true, named := ["unicode/utf8.first", "unicode/utf8.acceptRanges", "internal/bytealg.MaxLen"], apart := false, laid := [("unicode/utf8.acceptRanges", laid_unicode_utf8_acceptRanges), ("unicode/utf8.first", laid_unicode_utf8_first)] }
def FnExactReachedTraysSaid : Prop := fnExactReachedTraysRow.holds Tryz.pinned (OpenSpec.ofChange fnExactReachedTraysSpec)

/-- ITS FALSE NEIGHBOUR: 'it returns false'. Refute it at one input. -/
def fnExactReachedTraysWrong : ChangeSpec := { name := "fnExactReachedTrays", fn := fun _ => fun
  | [d] => { results := [.lit (.bool false)], args := [d] }
  | _ => none }
def FnExactReachedTraysWrongFalsely : Prop := fnExactReachedTraysRow.holds Tryz.pinned (OpenSpec.ofChange fnExactReachedTraysWrong)

/-- 'laws.FnExactLastingTrays': WHATEVER THE INPUT: true; the input reads as it did. -/
def fnExactLastingTraysSpec : ChangeSpec := { name := "fnExactLastingTrays", fn := fun _ => fun
  | [d] => { results := [.lit (.bool true)], args := [d] }
  | _ => none }
def fnExactLastingTraysRow : OpenClaim := { program := "ytldhkbiomingbaagreatdoor", sum := "4a3e8bbd0261f9df9c88c78dd94e977ad4d2a1c0e114df39adfb2998c01d9114", func := "loop.example/g01199/laws.FnExactLastingTrays", spec := "fnExactLastingTrays", inPlace := ["internal/bytealg.CountString", "internal/bytealg.IndexByteString", "internal/bytealg.IndexString", "internal/abi.NoEscape", "internal/bytealg.MakeNoZero"], unfollowed := true, recurses := true, named := ["unicode/utf8.first", "unicode/utf8.acceptRanges", "internal/bytealg.MaxLen"], apart := false, laid := [("unicode/utf8.acceptRanges", laid_unicode_utf8_acceptRanges), ("unicode/utf8.first", laid_unicode_utf8_first)] }
def FnExactLastingTraysSaid : Prop := fnExactLastingTraysRow.holds Tryz.pinned (OpenSpec.ofChange fnExactLastingTraysSpec)

/-- ITS FALSE NEIGHBOUR: 'it returns false'. Refute it at one input. -/
def fnExactLastingTraysWrong : ChangeSpec := { name := "fnExactLastingTrays", fn := fun _ => fun
  | [d] => { results := [.lit (.bool false)], args := [d] }
  | _ => none }
def FnExactLastingTraysWrongFalsely : Prop := fnExactLastingTraysRow.holds Tryz.pinned (OpenSpec.ofChange fnExactLastingTraysWrong)

/-- 'laws.FnExactCellsOfBall': WHATEVER THE INPUT: true; the input reads as it did. -/
def fnExactCellsOfBallSpec : ChangeSpec := { name := "fnExactCellsOfBall", fn := fun _ => fun
  | [d1, d2] => { results := [.lit (.bool true)], args := [d1, d2] }
  | _ => none }
def fnExactCellsOfBallRow : OpenClaim := { program := "ytldhkbiomingbaagreatdoor", sum := "4a3e8bbd0261f9df9c88c78dd94e977ad4d2a1c0e114df39adfb2998c01d9114", func := "loop.example/g01199/laws.FnExactCellsOfBall", spec := "fnExactCellsOfBall", inPlace := ["internal/bytealg.CountString", "internal/bytealg.IndexByteString", "internal/bytealg.IndexString", "internal/abi.NoEscape", "internal/bytealg.MakeNoZero"], unfollowed := true, recurses := true, named := ["unicode/utf8.first", "unicode/utf8.acceptRanges", "internal/bytealg.MaxLen"], apart := false, laid := [("unicode/utf8.acceptRanges", laid_unicode_utf8_acceptRanges), ("unicode/utf8.first", laid_unicode_utf8_first)] }
def FnExactCellsOfBallSaid : Prop := fnExactCellsOfBallRow.holds Tryz.pinned (OpenSpec.ofChange fnExactCellsOfBallSpec)

/-- ITS FALSE NEIGHBOUR: 'it returns false'. Refute it at one input. -/
def fnExactCellsOfBallWrong : ChangeSpec := { name := "fnExactCellsOfBall", fn := fun _ => fun
  | [d1, d2] => { results := [.lit (.bool false)], args := [d1, d2] }
  | _ => none }
def FnExactCellsOfBallWrongFalsely : Prop := fnExactCellsOfBallRow.holds Tryz.pinned (OpenSpec.ofChange fnExactCellsOfBallWrong)

/-- 'laws.FnExactClassesReached': WHATEVER THE INPUT: true; the input reads as it did. -/
def fnExactClassesReachedSpec : ChangeSpec := { name := "fnExactClassesReached", fn := fun _ => fun
  | [d] => { results := [.lit (.bool true)], args := [d] }
  | _ => none }
def fnExactClassesReachedRow : OpenClaim := { program := "ytldhkbiomingbaagreatdoor", sum := "4a3e8bbd0261f9df9c88c78dd94e977ad4d2a1c0e114df39adfb2998c01d9114", func := "loop.example/g01199/laws.FnExactClassesReached", spec := "fnExactClassesReached", inPlace := ["internal/bytealg.CountString", "internal/bytealg.IndexByteString", "internal/bytealg.IndexString", "internal/abi.NoEscape", "internal/bytealg.MakeNoZero", "internal/bytealg.abigen_runtime_cmpstring"], unfollowed := true, recurses := true, named := ["unicode/utf8.first", "unicode/utf8.acceptRanges", "internal/bytealg.MaxLen"], apart := false, laid := [("unicode/utf8.acceptRanges", laid_unicode_utf8_acceptRanges), ("unicode/utf8.first", laid_unicode_utf8_first)] }
def FnExactClassesReachedSaid : Prop := fnExactClassesReachedRow.holds Tryz.pinned (OpenSpec.ofChange fnExactClassesReachedSpec)

/-- ITS FALSE NEIGHBOUR: 'it returns false'. Refute it at one input. -/
def fnExactClassesReachedWrong : ChangeSpec := { name := "fnExactClassesReached", fn := fun _ => fun
  | [d] => { results := [.lit (.bool false)], args := [d] }
  | _ => none }
def FnExactClassesReachedWrongFalsely : Prop := fnExactClassesReachedRow.holds Tryz.pinned (OpenSpec.ofChange fnExactClassesReachedWrong)

/- THE SECOND FORM. 'bulk': how many values and letters a reading holds, each counted each time it is reached (what is shared counts as often as it is met; a slice's spare places count too). A statement '..UptoSaid' is the law's where the arguments, and the package variables that the reading takes, are together of bulk at most 1048576: NARROWER than '..Said'. Prove '..Said' where nothing that the law and all that it calls make is longer than what came in: it says more and counts as full. Else prove '..UptoSaid'. A law counts once. -/
mutual
def uptoBulk {H : Type} : DataW H → Nat
  | .lit (.string bytes) => bytes.length + 1
  | .lit _ => 1
  | .nil => 1
  | .ptr d => uptoBulk d + 1
  | .slice elems spare => uptoBulkAll elems + uptoBulkAll spare + 1
  | .agg parts => uptoBulkAll parts + 1
  | .iface _ d => uptoBulk d + 1
  | .map entries => uptoBulkEntries entries + 1
  | .held _ => 1
def uptoBulkAll {H : Type} : List (DataW H) → Nat
  | [] => 0
  | d :: r => uptoBulk d + uptoBulkAll r
def uptoBulkEntries {H : Type} : List (Lit × DataW H) → Nat
  | [] => 0
  | x :: r => uptoBulkEntry x + uptoBulkEntries r
def uptoBulkEntry {H : Type} : Lit × DataW H → Nat
  | (.string bytes, d) => bytes.length + uptoBulk d + 1
  | (_, d) => uptoBulk d + 1
 end
def uptoSmall : (H : Type) → List (DataW H) → Bool := fun _ ds => decide (uptoBulkAll ds ≤ 1048576)
def OpenSpec.upto (s : _root_.Go.ChangeSpec) : _root_.Go.OpenSpec := { _root_.Go.OpenSpec.ofChange s with cond := some uptoSmall }

/-- 'laws.FnExactHardestGoal', WHERE WHAT IT READS IS OF BULK AT MOST 1048576: true; the input reads as it did. -/
def fnExactHardestGoalUptoRow : OpenClaim := { program := "ytldhkbiomingbaagreatdoor", sum := "4a3e8bbd0261f9df9c88c78dd94e977ad4d2a1c0e114df39adfb2998c01d9114", func := "loop.example/g01199/laws.FnExactHardestGoal", spec := "fnExactHardestGoal", inPlace := ["internal/bytealg.CountString", "internal/bytealg.IndexByteString", "internal/bytealg.IndexString", "internal/abi.NoEscape", "internal/bytealg.MakeNoZero"], unfollowed := true, recurses := true, named := ["unicode/utf8.first", "unicode/utf8.acceptRanges", "internal/bytealg.MaxLen"], apart := false, laid := [("unicode/utf8.acceptRanges", laid_unicode_utf8_acceptRanges), ("unicode/utf8.first", laid_unicode_utf8_first)], narrowed := true }
def FnExactHardestGoalUptoSaid : Prop := fnExactHardestGoalUptoRow.holds Tryz.pinned (OpenSpec.upto fnExactHardestGoalSpec)

/-- 'laws.FnExactLengthOf', WHERE WHAT IT READS IS OF BULK AT MOST 1048576: true; the input reads as it did. -/
def fnExactLengthOfUptoRow : OpenClaim := { program := "ytldhkbiomingbaagreatdoor", sum := "4a3e8bbd0261f9df9c88c78dd94e977ad4d2a1c0e114df39adfb2998c01d9114", func := "loop.example/g01199/laws.FnExactLengthOf", spec := "fnExactLengthOf", inPlace := ["internal/bytealg.CountString", "internal/bytealg.IndexByteString", "internal/bytealg.IndexString", "internal/abi.NoEscape", "internal/bytealg.MakeNoZero"], unfollowed := true, recurses := true, named := ["unicode/utf8.first", "unicode/utf8.acceptRanges", "internal/bytealg.MaxLen"], apart := false, laid := [("unicode/utf8.acceptRanges", laid_unicode_utf8_acceptRanges), ("unicode/utf8.first", laid_unicode_utf8_first)], narrowed := true }
def FnExactLengthOfUptoSaid : Prop := fnExactLengthOfUptoRow.holds Tryz.pinned (OpenSpec.upto fnExactLengthOfSpec)

/-- 'laws.FnExactSolutionOf', WHERE WHAT IT READS IS OF BULK AT MOST 1048576: true; the input reads as it did. -/
def fnExactSolutionOfUptoRow : OpenClaim := { program := "ytldhkbiomingbaagreatdoor", sum := "4a3e8bbd0261f9df9c88c78dd94e977ad4d2a1c0e114df39adfb2998c01d9114", func := "loop.example/g01199/laws.FnExactSolutionOf", spec := "fnExactSolutionOf", inPlace := ["internal/bytealg.CountString", "internal/bytealg.IndexByteString", "internal/bytealg.IndexString", "internal/abi.NoEscape", "internal/bytealg.MakeNoZero"], unfollowed := true, recurses := true, named := ["unicode/utf8.first", "unicode/utf8.acceptRanges", "internal/bytealg.MaxLen"], apart := false, laid := [("unicode/utf8.acceptRanges", laid_unicode_utf8_acceptRanges), ("unicode/utf8.first", laid_unicode_utf8_first)], narrowed := true }
def FnExactSolutionOfUptoSaid : Prop := fnExactSolutionOfUptoRow.holds Tryz.pinned (OpenSpec.upto fnExactSolutionOfSpec)

/-- 'laws.FnExactCountSolutions', WHERE WHAT IT READS IS OF BULK AT MOST 1048576: true; the input reads as it did. -/
def fnExactCountSolutionsUptoRow : OpenClaim := { program := "ytldhkbiomingbaagreatdoor", sum := "4a3e8bbd0261f9df9c88c78dd94e977ad4d2a1c0e114df39adfb2998c01d9114", func := "loop.example/g01199/laws.FnExactCountSolutions", spec := "fnExactCountSolutions", inPlace := ["internal/bytealg.CountString", "internal/bytealg.IndexByteString", "internal/bytealg.IndexString", "internal/abi.NoEscape", "internal/bytealg.MakeNoZero"], unfollowed := true, recurses := true, named := ["unicode/utf8.first", "unicode/utf8.acceptRanges", "internal/bytealg.MaxLen"], apart := false, laid := [("unicode/utf8.acceptRanges", laid_unicode_utf8_acceptRanges), ("unicode/utf8.first", laid_unicode_utf8_first)], narrowed := true }
def FnExactCountSolutionsUptoSaid : Prop := fnExactCountSolutionsUptoRow.holds Tryz.pinned (OpenSpec.upto fnExactCountSolutionsSpec)

/-- 'laws.FnExactAllSolutions', WHERE WHAT IT READS IS OF BULK AT MOST 1048576: true; the input reads as it did. -/
def fnExactAllSolutionsUptoRow : OpenClaim := { program := "ytldhkbiomingbaagreatdoor", sum := "4a3e8bbd0261f9df9c88c78dd94e977ad4d2a1c0e114df39adfb2998c01d9114", func := "loop.example/g01199/laws.FnExactAllSolutions", spec := "fnExactAllSolutions", inPlace := ["internal/bytealg.CountString", "internal/bytealg.IndexByteString", "internal/bytealg.IndexString", "internal/abi.NoEscape", "internal/bytealg.MakeNoZero"], unfollowed := true, recurses := true, named := ["unicode/utf8.first", "unicode/utf8.acceptRanges", "internal/bytealg.MaxLen"], apart := false, laid := [("unicode/utf8.acceptRanges", laid_unicode_utf8_acceptRanges), ("unicode/utf8.first", laid_unicode_utf8_first)], narrowed := true }
def FnExactAllSolutionsUptoSaid : Prop := fnExactAllSolutionsUptoRow.holds Tryz.pinned (OpenSpec.upto fnExactAllSolutionsSpec)

/-- 'laws.FnExactNeedlessWalls', WHERE WHAT IT READS IS OF BULK AT MOST 1048576: true; the input reads as it did. -/
def fnExactNeedlessWallsUptoRow : OpenClaim := { program := "ytldhkbiomingbaagreatdoor", sum := "4a3e8bbd0261f9df9c88c78dd94e977ad4d2a1c0e114df39adfb2998c01d9114", func := "loop.example/g01199/laws.FnExactNeedlessWalls", spec := "fnExactNeedlessWalls", inPlace := ["internal/bytealg.CountString", "internal/bytealg.IndexByteString", "internal/bytealg.IndexString", "internal/abi.NoEscape", "internal/bytealg.MakeNoZero"], unfollowed := true, recurses := true, named := ["unicode/utf8.first", "unicode/utf8.acceptRanges", "internal/bytealg.MaxLen"], apart := false, laid := [("unicode/utf8.acceptRanges", laid_unicode_utf8_acceptRanges), ("unicode/utf8.first", laid_unicode_utf8_first)], narrowed := true }
def FnExactNeedlessWallsUptoSaid : Prop := fnExactNeedlessWallsUptoRow.holds Tryz.pinned (OpenSpec.upto fnExactNeedlessWallsSpec)

/-- 'laws.FnExactMakePuzzle', WHERE WHAT IT READS IS OF BULK AT MOST 1048576: true; the input reads as it did. -/
def fnExactMakePuzzleUptoRow : OpenClaim := { program := "ytldhkbiomingbaagreatdoor", sum := "4a3e8bbd0261f9df9c88c78dd94e977ad4d2a1c0e114df39adfb2998c01d9114", func := "loop.example/g01199/laws.FnExactMakePuzzle", spec := "fnExactMakePuzzle", inPlace := ["internal/abi.NoEscape", "internal/bytealg.MakeNoZero", "internal/bytealg.CountString", "internal/bytealg.IndexByteString", "internal/bytealg.IndexString"], unfollowed := true, recurses := true, named := ["unicode/utf8.first", "unicode/utf8.acceptRanges", "internal/bytealg.MaxLen"], apart := false, laid := [("unicode/utf8.acceptRanges", laid_unicode_utf8_acceptRanges), ("unicode/utf8.first", laid_unicode_utf8_first)], narrowed := true }
def FnExactMakePuzzleUptoSaid : Prop := fnExactMakePuzzleUptoRow.holds Tryz.pinned (OpenSpec.upto fnExactMakePuzzleSpec)

/-- 'laws.FnExactReachedTrays', WHERE WHAT IT READS IS OF BULK AT MOST 1048576: true; the input reads as it did. -/
def fnExactReachedTraysUptoRow : OpenClaim := { program := "ytldhkbiomingbaagreatdoor", sum := "4a3e8bbd0261f9df9c88c78dd94e977ad4d2a1c0e114df39adfb2998c01d9114", func := "loop.example/g01199/laws.FnExactReachedTrays", spec := "fnExactReachedTrays", inPlace := ["internal/bytealg.CountString", "internal/bytealg.IndexByteString", "internal/bytealg.IndexString", "internal/abi.NoEscape", "internal/bytealg.MakeNoZero"], unfollowed := true, recurses := true, named := ["unicode/utf8.first", "unicode/utf8.acceptRanges", "internal/bytealg.MaxLen"], apart := false, laid := [("unicode/utf8.acceptRanges", laid_unicode_utf8_acceptRanges), ("unicode/utf8.first", laid_unicode_utf8_first)], narrowed := true }
def FnExactReachedTraysUptoSaid : Prop := fnExactReachedTraysUptoRow.holds Tryz.pinned (OpenSpec.upto fnExactReachedTraysSpec)

/-- 'laws.FnExactLastingTrays', WHERE WHAT IT READS IS OF BULK AT MOST 1048576: true; the input reads as it did. -/
def fnExactLastingTraysUptoRow : OpenClaim := { program := "ytldhkbiomingbaagreatdoor", sum := "4a3e8bbd0261f9df9c88c78dd94e977ad4d2a1c0e114df39adfb2998c01d9114", func := "loop.example/g01199/laws.FnExactLastingTrays", spec := "fnExactLastingTrays", inPlace := ["internal/bytealg.CountString", "internal/bytealg.IndexByteString", "internal/bytealg.IndexString", "internal/abi.NoEscape", "internal/bytealg.MakeNoZero"], unfollowed := true, recurses := true, named := ["unicode/utf8.first", "unicode/utf8.acceptRanges", "internal/bytealg.MaxLen"], apart := false, laid := [("unicode/utf8.acceptRanges", laid_unicode_utf8_acceptRanges), ("unicode/utf8.first", laid_unicode_utf8_first)], narrowed := true }
def FnExactLastingTraysUptoSaid : Prop := fnExactLastingTraysUptoRow.holds Tryz.pinned (OpenSpec.upto fnExactLastingTraysSpec)

/-- 'laws.FnExactCellsOfBall', WHERE WHAT IT READS IS OF BULK AT MOST 1048576: true; the input reads as it did. -/
def fnExactCellsOfBallUptoRow : OpenClaim := { program := "ytldhkbiomingbaagreatdoor", sum := "4a3e8bbd0261f9df9c88c78dd94e977ad4d2a1c0e114df39adfb2998c01d9114", func := "loop.example/g01199/laws.FnExactCellsOfBall", spec := "fnExactCellsOfBall", inPlace := ["internal/bytealg.CountString", "internal/bytealg.IndexByteString", "internal/bytealg.IndexString", "internal/abi.NoEscape", "internal/bytealg.MakeNoZero"], unfollowed := true, recurses := true, named := ["unicode/utf8.first", "unicode/utf8.acceptRanges", "internal/bytealg.MaxLen"], apart := false, laid := [("unicode/utf8.acceptRanges", laid_unicode_utf8_acceptRanges), ("unicode/utf8.first", laid_unicode_utf8_first)], narrowed := true }
def FnExactCellsOfBallUptoSaid : Prop := fnExactCellsOfBallUptoRow.holds Tryz.pinned (OpenSpec.upto fnExactCellsOfBallSpec)

/-- 'laws.FnExactClassesReached', WHERE WHAT IT READS IS OF BULK AT MOST 1048576: true; the input reads as it did. -/
def fnExactClassesReachedUptoRow : OpenClaim := { program := "ytldhkbiomingbaagreatdoor", sum := "4a3e8bbd0261f9df9c88c78dd94e977ad4d2a1c0e114df39adfb2998c01d9114", func := "loop.example/g01199/laws.FnExactClassesReached", spec := "fnExactClassesReached", inPlace := ["internal/bytealg.CountString", "internal/bytealg.IndexByteString", "internal/bytealg.IndexString", "internal/abi.NoEscape", "internal/bytealg.MakeNoZero", "internal/bytealg.abigen_runtime_cmpstring"], unfollowed := true, recurses := true, named := ["unicode/utf8.first", "unicode/utf8.acceptRanges", "internal/bytealg.MaxLen"], apart := false, laid := [("unicode/utf8.acceptRanges", laid_unicode_utf8_acceptRanges), ("unicode/utf8.first", laid_unicode_utf8_first)], narrowed := true }
def FnExactClassesReachedUptoSaid : Prop := fnExactClassesReachedUptoRow.holds Tryz.pinned (OpenSpec.upto fnExactClassesReachedSpec)

end Rows
end Go.Proofs.YtldhkbiomingbaaGreatDoor
