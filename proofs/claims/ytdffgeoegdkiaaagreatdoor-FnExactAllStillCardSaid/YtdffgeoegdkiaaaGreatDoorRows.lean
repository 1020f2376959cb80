/-
  NARROWER THAN 'FOR EVERY INPUT', by the rows' own cells (each row's printed sentence says how): FnExactWordsBack: laid · FnExactGateTable: laid · FnExactSignOfWord: laid · FnExactOrderOfWord: laid · FnExactGateNumber: laid · FnExactCyclesOfWord: laid · FnExactCountGates: laid · FnExactWordForGate: laid · FnExactIsReversible: laid · FnExactReplayOf: laid · FnExactCountCorner: laid · FnExactAllStill: laid.
  DERIVED. THE GIVEN ROWS OF THIS SEAT. 12 by the template 'for every input the law returns true; each argument reads behind the call as it read before'; 0 by the template 'total and deterministic' (their statements: YtdffgeoegdkiaaaGreatDoorTotals.lean).
  GIVEN WITH THE SEED: the statements are not yours to turn. If you find one false, say at which input.
  Laid BY PROGRAM, IN A SANDBOX (cutbox-rows.mjs): the forced cells as the released guide's own fill.sh prints them over the translation c4ba4e3da9dec5bb… (all of the seat's roots in one cut). By AI agents, Wed Nov 11 2026. No macro, syntax, notation, axiom, sorry.
-/
import Derived.Test.YtdffgeoegdkiaaaGreatDoorChecked
import GoSem.PinnedTables
import GoSem.Claim
import GoSem.ClaimJoined
import GoSem.ClaimMapViews
import Derived.JoinedTies
import Derived.KernelRfl
namespace Go.Proofs.YtdffgeoegdkiaaaGreatDoor
/- THE CELL 'sum', in the pinned program and in every row, IS THE sha256 OF THE DUMP (.gsa) THAT YtdffgeoegdkiaaaGreatDoorProg.lean LOADS. Nothing in Lean hashes anything: it is a label: what it is worth is what the hold of that sum in a sandbox is worth. -/
noncomputable def Tryz.pinned : Pinned := { name := "ytdffgeoegdkiaaagreatdoor", sum := "c4ba4e3da9dec5bb826f0ca7eb93cdf44b6141da41419253f9f693f9f1fb376f", checked := Tryz.checked }
namespace Rows
def none {H : Type} : Left H := { results := [], args := [] }

/- WHAT THE LISTED PACKAGE-LEVEL VARIABLES READ AS WHEN THE CALL BEGINS. Each datum BY PROGRAM (the guide's laid-datum.mjs) off the statement by which the dump's own 'gosem.cut.vars' lays the variable. In a bare row this is a premise. The card (YtdffgeoegdkiaaaGreatDoorCards.lean) ties it to the program's text. -/
def laid_unicode_utf8_acceptRanges {H : Type} : DataW H := .agg [.agg [.lit (.int .u8 128), .lit (.int .u8 191)], .agg [.lit (.int .u8 160), .lit (.int .u8 191)], .agg [.lit (.int .u8 128), .lit (.int .u8 159)], .agg [.lit (.int .u8 144), .lit (.int .u8 191)], .agg [.lit (.int .u8 128), .lit (.int .u8 143)], .agg [.lit (.int .u8 0), .lit (.int .u8 0)], .agg [.lit (.int .u8 0), .lit (.int .u8 0)], .agg [.lit (.int .u8 0), .lit (.int .u8 0)], .agg [.lit (.int .u8 0), .lit (.int .u8 0)], .agg [.lit (.int .u8 0), .lit (.int .u8 0)], .agg [.lit (.int .u8 0), .lit (.int .u8 0)], .agg [.lit (.int .u8 0), .lit (.int .u8 0)], .agg [.lit (.int .u8 0), .lit (.int .u8 0)], .agg [.lit (.int .u8 0), .lit (.int .u8 0)], .agg [.lit (.int .u8 0), .lit (.int .u8 0)], .agg [.lit (.int .u8 0), .lit (.int .u8 0)]]
/-- One of Go's own tables, pinned by name: the form's constant. -/
def laid_unicode_utf8_first : DataW Unit := Go.Pinned.utf8First

/-- 'laws.FnExactWordsBack': WHATEVER THE INPUT: true; the input reads as it did. -/
def fnExactWordsBackSpec : ChangeSpec := { name := "fnExactWordsBack", fn := fun _ => fun
  | [d1, d2] => { results := [.lit (.bool true)], args := [d1, d2] }
  | _ => none }
def fnExactWordsBackRow : OpenClaim := { program := "ytdffgeoegdkiaaagreatdoor", sum := "c4ba4e3da9dec5bb826f0ca7eb93cdf44b6141da41419253f9f693f9f1fb376f", func := "loop.example/g01199/laws.FnExactWordsBack", spec := "fnExactWordsBack", inPlace := ["internal/bytealg.CountString", "internal/bytealg.IndexByteString", "internal/bytealg.IndexString", "internal/abi.NoEscape", "internal/bytealg.MakeNoZero"], unfollowed := true, recurses := true, named := ["unicode/utf8.first", "unicode/utf8.acceptRanges", "internal/bytealg.MaxLen"], apart := false, laid := [("unicode/utf8.acceptRanges", laid_unicode_utf8_acceptRanges), ("unicode/utf8.first", laid_unicode_utf8_first)] }
def FnExactWordsBackSaid : Prop := fnExactWordsBackRow.holds Tryz.pinned (OpenSpec.ofChange fnExactWordsBackSpec)

/-- ITS FALSE NEIGHBOUR: 'it returns false'. Refute it at one input. -/
def fnExactWordsBackWrong : ChangeSpec := { name := "fnExactWordsBack", fn := fun _ => fun
  | [d1, d2] => { results := [.lit (.bool false)], args := [d1, d2] }
  | _ => none }
def FnExactWordsBackWrongFalsely : Prop := fnExactWordsBackRow.holds Tryz.pinned (OpenSpec.ofChange fnExactWordsBackWrong)

/-- 'laws.FnExactGateTable': WHATEVER THE INPUT: true; the input reads as it did. -/
def fnExactGateTableSpec : ChangeSpec := { name := "fnExactGateTable", fn := fun _ => fun
  | [d1, d2, d3, d4] => { results := [.lit (.bool true)], args := [d1, d2, d3, d4] }
  | _ => none }
def fnExactGateTableRow : OpenClaim := { program := "ytdffgeoegdkiaaagreatdoor", sum := "c4ba4e3da9dec5bb826f0ca7eb93cdf44b6141da41419253f9f693f9f1fb376f", func := "loop.example/g01199/laws.FnExactGateTable", spec := "fnExactGateTable", inPlace := ["internal/bytealg.CountString", "internal/bytealg.IndexByteString", "internal/bytealg.IndexString", "internal/abi.NoEscape", "internal/bytealg.MakeNoZero"], unfollowed := true, recurses := true, named := ["unicode/utf8.first", "unicode/utf8.acceptRanges", "internal/bytealg.MaxLen"], apart := false, laid := [("unicode/utf8.acceptRanges", laid_unicode_utf8_acceptRanges), ("unicode/utf8.first", laid_unicode_utf8_first)] }
def FnExactGateTableSaid : Prop := fnExactGateTableRow.holds Tryz.pinned (OpenSpec.ofChange fnExactGateTableSpec)

/-- ITS FALSE NEIGHBOUR: 'it returns false'. Refute it at one input. -/
def fnExactGateTableWrong : ChangeSpec := { name := "fnExactGateTable", fn := fun _ => fun
  | [d1, d2, d3, d4] => { results := [.lit (.bool false)], args := [d1, d2, d3, d4] }
  | _ => none }
def FnExactGateTableWrongFalsely : Prop := fnExactGateTableRow.holds Tryz.pinned (OpenSpec.ofChange fnExactGateTableWrong)

/-- 'laws.FnExactSignOfWord': WHATEVER THE INPUT: true; the input reads as it did. -/
def fnExactSignOfWordSpec : ChangeSpec := { name := "fnExactSignOfWord", fn := fun _ => fun
  | [d1, d2] => { results := [.lit (.bool true)], args := [d1, d2] }
  | _ => none }
def fnExactSignOfWordRow : OpenClaim := { program := "ytdffgeoegdkiaaagreatdoor", sum := "c4ba4e3da9dec5bb826f0ca7eb93cdf44b6141da41419253f9f693f9f1fb376f", func := "loop.example/g01199/laws.FnExactSignOfWord", spec := "fnExactSignOfWord", inPlace := ["internal/bytealg.CountString", "internal/bytealg.IndexByteString", "internal/bytealg.IndexString", "internal/abi.NoEscape", "internal/bytealg.MakeNoZero"], unfollowed := true, recurses := true, named := ["unicode/utf8.first", "unicode/utf8.acceptRanges", "internal/bytealg.MaxLen"], apart := false, laid := [("unicode/utf8.acceptRanges", laid_unicode_utf8_acceptRanges), ("unicode/utf8.first", laid_unicode_utf8_first)] }
def FnExactSignOfWordSaid : Prop := fnExactSignOfWordRow.holds Tryz.pinned (OpenSpec.ofChange fnExactSignOfWordSpec)

/-- ITS FALSE NEIGHBOUR: 'it returns false'. Refute it at one input. -/
def fnExactSignOfWordWrong : ChangeSpec := { name := "fnExactSignOfWord", fn := fun _ => fun
  | [d1, d2] => { results := [.lit (.bool false)], args := [d1, d2] }
  | _ => none }
def FnExactSignOfWordWrongFalsely : Prop := fnExactSignOfWordRow.holds Tryz.pinned (OpenSpec.ofChange fnExactSignOfWordWrong)

/-- 'laws.FnExactOrderOfWord': WHATEVER THE INPUT: true; the input reads as it did. -/
def fnExactOrderOfWordSpec : ChangeSpec := { name := "fnExactOrderOfWord", fn := fun _ => fun
  | [d1, d2] => { results := [.lit (.bool true)], args := [d1, d2] }
  | _ => none }
def fnExactOrderOfWordRow : OpenClaim := { program := "ytdffgeoegdkiaaagreatdoor", sum := "c4ba4e3da9dec5bb826f0ca7eb93cdf44b6141da41419253f9f693f9f1fb376f", func := "loop.example/g01199/laws.FnExactOrderOfWord", spec := "fnExactOrderOfWord", inPlace := ["internal/bytealg.CountString", "internal/bytealg.IndexByteString", "internal/bytealg.IndexString", "internal/abi.NoEscape", "internal/bytealg.MakeNoZero"], unfollowed := true, recurses := true, named := ["unicode/utf8.first", "unicode/utf8.acceptRanges", "internal/bytealg.MaxLen"], apart := false, laid := [("unicode/utf8.acceptRanges", laid_unicode_utf8_acceptRanges), ("unicode/utf8.first", laid_unicode_utf8_first)] }
def FnExactOrderOfWordSaid : Prop := fnExactOrderOfWordRow.holds Tryz.pinned (OpenSpec.ofChange fnExactOrderOfWordSpec)

/-- ITS FALSE NEIGHBOUR: 'it returns false'. Refute it at one input. -/
def fnExactOrderOfWordWrong : ChangeSpec := { name := "fnExactOrderOfWord", fn := fun _ => fun
  | [d1, d2] => { results := [.lit (.bool false)], args := [d1, d2] }
  | _ => none }
def FnExactOrderOfWordWrongFalsely : Prop := fnExactOrderOfWordRow.holds Tryz.pinned (OpenSpec.ofChange fnExactOrderOfWordWrong)

/-- 'laws.FnExactGateNumber': WHATEVER THE INPUT: true; the input reads as it did. -/
def fnExactGateNumberSpec : ChangeSpec := { name := "fnExactGateNumber", fn := fun _ => fun
  | [d1, d2, d3, d4] => { results := [.lit (.bool true)], args := [d1, d2, d3, d4] }
  | _ => none }
def fnExactGateNumberRow : OpenClaim := { program := "ytdffgeoegdkiaaagreatdoor", sum := "c4ba4e3da9dec5bb826f0ca7eb93cdf44b6141da41419253f9f693f9f1fb376f", func := "loop.example/g01199/laws.FnExactGateNumber", spec := "fnExactGateNumber", inPlace := ["internal/bytealg.CountString", "internal/bytealg.IndexByteString", "internal/bytealg.IndexString", "internal/abi.NoEscape", "internal/bytealg.MakeNoZero"], unfollowed := true, recurses := true, named := ["unicode/utf8.first", "unicode/utf8.acceptRanges", "internal/bytealg.MaxLen"], apart := false, laid := [("unicode/utf8.acceptRanges", laid_unicode_utf8_acceptRanges), ("unicode/utf8.first", laid_unicode_utf8_first)] }
def FnExactGateNumberSaid : Prop := fnExactGateNumberRow.holds Tryz.pinned (OpenSpec.ofChange fnExactGateNumberSpec)

/-- ITS FALSE NEIGHBOUR: 'it returns false'. Refute it at one input. -/
def fnExactGateNumberWrong : ChangeSpec := { name := "fnExactGateNumber", fn := fun _ => fun
  | [d1, d2, d3, d4] => { results := [.lit (.bool false)], args := [d1, d2, d3, d4] }
  | _ => none }
def FnExactGateNumberWrongFalsely : Prop := fnExactGateNumberRow.holds Tryz.pinned (OpenSpec.ofChange fnExactGateNumberWrong)

/-- 'laws.FnExactCyclesOfWord': WHATEVER THE INPUT: true; the input reads as it did. -/
def fnExactCyclesOfWordSpec : ChangeSpec := { name := "fnExactCyclesOfWord", fn := fun _ => fun
  | [d1, d2] => { results := [.lit (.bool true)], args := [d1, d2] }
  | _ => none }
def fnExactCyclesOfWordRow : OpenClaim := { program := "ytdffgeoegdkiaaagreatdoor", sum := "c4ba4e3da9dec5bb826f0ca7eb93cdf44b6141da41419253f9f693f9f1fb376f", func := "loop.example/g01199/laws.FnExactCyclesOfWord", spec := "fnExactCyclesOfWord", inPlace := ["internal/bytealg.CountString", "internal/bytealg.IndexByteString", "internal/bytealg.IndexString", "internal/abi.NoEscape", "internal/bytealg.MakeNoZero"], unfollowed := true, recurses := true, named := ["unicode/utf8.first", "unicode/utf8.acceptRanges", "internal/bytealg.MaxLen"], apart := false, laid := [("unicode/utf8.acceptRanges", laid_unicode_utf8_acceptRanges), ("unicode/utf8.first", laid_unicode_utf8_first)] }
def FnExactCyclesOfWordSaid : Prop := fnExactCyclesOfWordRow.holds Tryz.pinned (OpenSpec.ofChange fnExactCyclesOfWordSpec)

/-- ITS FALSE NEIGHBOUR: 'it returns false'. Refute it at one input. -/
def fnExactCyclesOfWordWrong : ChangeSpec := { name := "fnExactCyclesOfWord", fn := fun _ => fun
  | [d1, d2] => { results := [.lit (.bool false)], args := [d1, d2] }
  | _ => none }
def FnExactCyclesOfWordWrongFalsely : Prop := fnExactCyclesOfWordRow.holds Tryz.pinned (OpenSpec.ofChange fnExactCyclesOfWordWrong)

/-- 'laws.FnExactCountGates': WHATEVER THE INPUT: true; the input reads as it did. -/
def fnExactCountGatesSpec : ChangeSpec := { name := "fnExactCountGates", fn := fun _ => fun
  | [d1, d2, d3] => { results := [.lit (.bool true)], args := [d1, d2, d3] }
  | _ => none }
def fnExactCountGatesRow : OpenClaim := { program := "ytdffgeoegdkiaaagreatdoor", sum := "c4ba4e3da9dec5bb826f0ca7eb93cdf44b6141da41419253f9f693f9f1fb376f", func := "loop.example/g01199/laws.FnExactCountGates", spec := "fnExactCountGates", inPlace := ["internal/bytealg.CountString", "internal/bytealg.IndexByteString", "internal/bytealg.IndexString", "internal/abi.NoEscape", "internal/bytealg.MakeNoZero"], unfollowed := true, recurses := true, named := ["unicode/utf8.first", "unicode/utf8.acceptRanges", "internal/bytealg.MaxLen"], apart := false, laid := [("unicode/utf8.acceptRanges", laid_unicode_utf8_acceptRanges), ("unicode/utf8.first", laid_unicode_utf8_first)] }
def FnExactCountGatesSaid : Prop := fnExactCountGatesRow.holds Tryz.pinned (OpenSpec.ofChange fnExactCountGatesSpec)

/-- ITS FALSE NEIGHBOUR: 'it returns false'. Refute it at one input. -/
def fnExactCountGatesWrong : ChangeSpec := { name := "fnExactCountGates", fn := fun _ => fun
  | [d1, d2, d3] => { results := [.lit (.bool false)], args := [d1, d2, d3] }
  | _ => none }
def FnExactCountGatesWrongFalsely : Prop := fnExactCountGatesRow.holds Tryz.pinned (OpenSpec.ofChange fnExactCountGatesWrong)

/-- 'laws.FnExactWordForGate': WHATEVER THE INPUT: true; the input reads as it did. -/
def fnExactWordForGateSpec : ChangeSpec := { name := "fnExactWordForGate", fn := fun _ => fun
  | [d1, d2, d3, d4] => { results := [.lit (.bool true)], args := [d1, d2, d3, d4] }
  | _ => none }
def fnExactWordForGateRow : OpenClaim := { program := "ytdffgeoegdkiaaagreatdoor", sum := "c4ba4e3da9dec5bb826f0ca7eb93cdf44b6141da41419253f9f693f9f1fb376f", func := "loop.example/g01199/laws.FnExactWordForGate", spec := "fnExactWordForGate", inPlace := ["internal/bytealg.CountString", "internal/bytealg.IndexByteString", "internal/bytealg.IndexString", "internal/abi.NoEscape", "internal/bytealg.MakeNoZero"], unfollowed := true, recurses := true, named := ["unicode/utf8.first", "unicode/utf8.acceptRanges", "internal/bytealg.MaxLen"], apart := false, laid := [("unicode/utf8.acceptRanges", laid_unicode_utf8_acceptRanges), ("unicode/utf8.first", laid_unicode_utf8_first)] }
def FnExactWordForGateSaid : Prop := fnExactWordForGateRow.holds Tryz.pinned (OpenSpec.ofChange fnExactWordForGateSpec)

/-- ITS FALSE NEIGHBOUR: 'it returns false'. Refute it at one input. -/
def fnExactWordForGateWrong : ChangeSpec := { name := "fnExactWordForGate", fn := fun _ => fun
  | [d1, d2, d3, d4] => { results := [.lit (.bool false)], args := [d1, d2, d3, d4] }
  | _ => none }
def FnExactWordForGateWrongFalsely : Prop := fnExactWordForGateRow.holds Tryz.pinned (OpenSpec.ofChange fnExactWordForGateWrong)

/-- 'laws.FnExactIsReversible': WHATEVER THE INPUT: true; the input reads as it did. -/
def fnExactIsReversibleSpec : ChangeSpec := { name := "fnExactIsReversible", fn := fun _ => fun
  | [d1, d2, d3, d4] => { results := [.lit (.bool true)], args := [d1, d2, d3, d4] }
  | _ => none }
def fnExactIsReversibleRow : OpenClaim := { program := "ytdffgeoegdkiaaagreatdoor", sum := "c4ba4e3da9dec5bb826f0ca7eb93cdf44b6141da41419253f9f693f9f1fb376f", func := "loop.example/g01199/laws.FnExactIsReversible", spec := "fnExactIsReversible", inPlace := ["internal/bytealg.CountString", "internal/bytealg.IndexByteString", "internal/bytealg.IndexString", "internal/abi.NoEscape", "internal/bytealg.MakeNoZero"], unfollowed := true, recurses := true, named := ["unicode/utf8.first", "unicode/utf8.acceptRanges", "internal/bytealg.MaxLen"], apart := false, laid := [("unicode/utf8.acceptRanges", laid_unicode_utf8_acceptRanges), ("unicode/utf8.first", laid_unicode_utf8_first)] }
def FnExactIsReversibleSaid : Prop := fnExactIsReversibleRow.holds Tryz.pinned (OpenSpec.ofChange fnExactIsReversibleSpec)

/-- ITS FALSE NEIGHBOUR: 'it returns false'. Refute it at one input. -/
def fnExactIsReversibleWrong : ChangeSpec := { name := "fnExactIsReversible", fn := fun _ => fun
  | [d1, d2, d3, d4] => { results := [.lit (.bool false)], args := [d1, d2, d3, d4] }
  | _ => none }
def FnExactIsReversibleWrongFalsely : Prop := fnExactIsReversibleRow.holds Tryz.pinned (OpenSpec.ofChange fnExactIsReversibleWrong)

/-- 'laws.FnExactReplayOf': WHATEVER THE INPUT: true; the input reads as it did. -/
def fnExactReplayOfSpec : ChangeSpec := { name := "fnExactReplayOf", fn := fun _ => fun
  | [d1, d2] => { results := [.lit (.bool true)], args := [d1, d2] }
  | _ => none }
def fnExactReplayOfRow : OpenClaim := { program := "ytdffgeoegdkiaaagreatdoor", sum := "c4ba4e3da9dec5bb826f0ca7eb93cdf44b6141da41419253f9f693f9f1fb376f", func := "loop.example/g01199/laws.FnExactReplayOf", spec := "fnExactReplayOf", inPlace := ["internal/bytealg.CountString", "internal/bytealg.IndexByteString", "internal/bytealg.IndexString", "internal/abi.NoEscape", "internal/bytealg.MakeNoZero"], unfollowed := true, recurses := true, named := ["unicode/utf8.first", "unicode/utf8.acceptRanges", "internal/bytealg.MaxLen"], apart := false, laid := [("unicode/utf8.acceptRanges", laid_unicode_utf8_acceptRanges), ("unicode/utf8.first", laid_unicode_utf8_first)] }
def FnExactReplayOfSaid : Prop := fnExactReplayOfRow.holds Tryz.pinned (OpenSpec.ofChange fnExactReplayOfSpec)

/-- ITS FALSE NEIGHBOUR: 'it returns false'. Refute it at one input. -/
def fnExactReplayOfWrong : ChangeSpec := { name := "fnExactReplayOf", fn := fun _ => fun
  | [d1, d2] => { results := [.lit (.bool false)], args := [d1, d2] }
  | _ => none }
def FnExactReplayOfWrongFalsely : Prop := fnExactReplayOfRow.holds Tryz.pinned (OpenSpec.ofChange fnExactReplayOfWrong)

/-- 'laws.FnExactCountCorner': WHATEVER THE INPUT: true; the input reads as it did. -/
def fnExactCountCornerSpec : ChangeSpec := { name := "fnExactCountCorner", fn := fun _ => fun
  | [d1, d2] => { results := [.lit (.bool true)], args := [d1, d2] }
  | _ => none }
def fnExactCountCornerRow : OpenClaim := { program := "ytdffgeoegdkiaaagreatdoor", sum := "c4ba4e3da9dec5bb826f0ca7eb93cdf44b6141da41419253f9f693f9f1fb376f", func := "loop.example/g01199/laws.FnExactCountCorner", spec := "fnExactCountCorner", inPlace := ["internal/bytealg.CountString", "internal/bytealg.IndexByteString", "internal/bytealg.IndexString", "internal/abi.NoEscape", "internal/bytealg.MakeNoZero"], unfollowed := true, recurses := true, named := ["unicode/utf8.first", "unicode/utf8.acceptRanges", "internal/bytealg.MaxLen"], apart := false, laid := [("unicode/utf8.acceptRanges", laid_unicode_utf8_acceptRanges), ("unicode/utf8.first", laid_unicode_utf8_first)] }
def FnExactCountCornerSaid : Prop := fnExactCountCornerRow.holds Tryz.pinned (OpenSpec.ofChange fnExactCountCornerSpec)

/-- ITS FALSE NEIGHBOUR: 'it returns false'. Refute it at one input. -/
def fnExactCountCornerWrong : ChangeSpec := { name := "fnExactCountCorner", fn := fun _ => fun
  | [d1, d2] => { results := [.lit (.bool false)], args := [d1, d2] }
  | _ => none }
def FnExactCountCornerWrongFalsely : Prop := fnExactCountCornerRow.holds Tryz.pinned (OpenSpec.ofChange fnExactCountCornerWrong)

/-- 'laws.FnExactAllStill': WHATEVER THE INPUT: true; the input reads as it did. -/
def fnExactAllStillSpec : ChangeSpec := { name := "fnExactAllStill", fn := fun _ => fun
  | [d1, d2] => { results := [.lit (.bool true)], args := [d1, d2] }
  | _ => none }
def fnExactAllStillRow : OpenClaim := { program := "ytdffgeoegdkiaaagreatdoor", sum := "c4ba4e3da9dec5bb826f0ca7eb93cdf44b6141da41419253f9f693f9f1fb376f", func := "loop.example/g01199/laws.FnExactAllStill", spec := "fnExactAllStill", inPlace := ["internal/bytealg.CountString", "internal/bytealg.IndexByteString", "internal/bytealg.IndexString", "internal/abi.NoEscape", "internal/bytealg.MakeNoZero"], unfollowed := true, recurses := true, named := ["unicode/utf8.first", "unicode/utf8.acceptRanges", "internal/bytealg.MaxLen"], apart := false, laid := [("unicode/utf8.acceptRanges", laid_unicode_utf8_acceptRanges), ("unicode/utf8.first", laid_unicode_utf8_first)] }
def FnExactAllStillSaid : Prop := fnExactAllStillRow.holds Tryz.pinned (OpenSpec.ofChange fnExactAllStillSpec)

/-- ITS FALSE NEIGHBOUR: 'it returns false'. Refute it at one input. -/
def fnExactAllStillWrong : ChangeSpec := { name := "fnExactAllStill", fn := fun _ => fun
  | [d1, d2] => { results := [.lit (.bool false)], args := [d1, d2] }
  | _ => none }
def FnExactAllStillWrongFalsely : Prop := fnExactAllStillRow.holds Tryz.pinned (OpenSpec.ofChange fnExactAllStillWrong)

/- THE SECOND FORM. 'bulk': how many values and letters a reading holds, each counted each time it is reached (what is shared counts as often as it is met; a slice's spare places count too). A statement '..UptoSaid' is the law's where the arguments, and the package variables that the reading takes, are together of bulk at most 1048576: NARROWER than '..Said'. Prove '..Said' where nothing that the law and all that it calls make is longer than what came in: it says more and counts as full. Else prove '..UptoSaid'. A law counts once. -/
mutual
def uptoBulk {H : Type} : DataW H → Nat
  | .lit (.string bytes) => bytes.length + 1
  | .lit _ => 1
  | .nil => 1
  | .ptr d => uptoBulk d + 1
  | .slice elems spare => uptoBulkAll elems + uptoBulkAll spare + 1
  | .agg parts => uptoBulkAll parts + 1
  | .iface _ d => uptoBulk d + 1
  | .map entries => uptoBulkEntries entries + 1
  | .held _ => 1
def uptoBulkAll {H : Type} : List (DataW H) → Nat
  | [] => 0
  | d :: r => uptoBulk d + uptoBulkAll r
def uptoBulkEntries {H : Type} : List (Lit × DataW H) → Nat
  | [] => 0
  | x :: r => uptoBulkEntry x + uptoBulkEntries r
def uptoBulkEntry {H : Type} : Lit × DataW H → Nat
  | (.string bytes, d) => bytes.length + uptoBulk d + 1
  | (_, d) => uptoBulk d + 1
 end
def uptoSmall : (H : Type) → List (DataW H) → Bool := fun _ ds => decide (uptoBulkAll ds ≤ 1048576)
def OpenSpec.upto (s : _root_.Go.ChangeSpec) : _root_.Go.OpenSpec := { _root_.Go.OpenSpec.ofChange s with cond := some uptoSmall }

/-- 'laws.FnExactWordsBack', WHERE WHAT IT READS IS OF BULK AT MOST 1048576: true; the input reads as it did. -/
def fnExactWordsBackUptoRow : OpenClaim := { program := "ytdffgeoegdkiaaagreatdoor", sum := "c4ba4e3da9dec5bb826f0ca7eb93cdf44b6141da41419253f9f693f9f1fb376f", func := "loop.example/g01199/laws.FnExactWordsBack", spec := "fnExactWordsBack", inPlace := ["internal/bytealg.CountString", "internal/bytealg.IndexByteString", "internal/bytealg.IndexString", "internal/abi.NoEscape", "internal/bytealg.MakeNoZero"], unfollowed := true, recurses := true, named := ["unicode/utf8.first", "unicode/utf8.acceptRanges", "internal/bytealg.MaxLen"], apart := false, laid := [("unicode/utf8.acceptRanges", laid_unicode_utf8_acceptRanges), ("unicode/utf8.first", laid_unicode_utf8_first)], narrowed := true }
def FnExactWordsBackUptoSaid : Prop := fnExactWordsBackUptoRow.holds Tryz.pinned (OpenSpec.upto fnExactWordsBackSpec)

/-- 'laws.FnExactGateTable', WHERE WHAT IT READS IS OF BULK AT MOST 1048576: true; the input reads as it did. -/
def fnExactGateTableUptoRow : OpenClaim := { program := "ytdffgeoegdkiaaagreatdoor", sum := "c4ba4e3da9dec5bb826f0ca7eb93cdf44b6141da41419253f9f693f9f1fb376f", func := "loop.example/g01199/laws.FnExactGateTable", spec := "fnExactGateTable", inPlace := ["internal/bytealg.CountString", "internal/bytealg.IndexByteString", "internal/bytealg.IndexString", "internal/abi.NoEscape", "internal/bytealg.MakeNoZero"], unfollowed := true, recurses := true, named := ["unicode/utf8.first", "unicode/utf8.acceptRanges", "internal/bytealg.MaxLen"], apart := false, laid := [("unicode/utf8.acceptRanges", laid_unicode_utf8_acceptRanges), ("unicode/utf8.first", laid_unicode_utf8_first)], narrowed := true }
def FnExactGateTableUptoSaid : Prop := fnExactGateTableUptoRow.holds Tryz.pinned (OpenSpec.upto fnExactGateTableSpec)

/-- 'laws.FnExactSignOfWord', WHERE WHAT IT READS IS OF BULK AT MOST 1048576: true; the input reads as it did. -/
def fnExactSignOfWordUptoRow : OpenClaim := { program := "ytdffgeoegdkiaaagreatdoor", sum := "c4ba4e3da9dec5bb826f0ca7eb93cdf44b6141da41419253f9f693f9f1fb376f", func := "loop.example/g01199/laws.FnExactSignOfWord", spec := "fnExactSignOfWord", inPlace := ["internal/bytealg.CountString", "internal/bytealg.IndexByteString", "internal/bytealg.IndexString", "internal/abi.NoEscape", "internal/bytealg.MakeNoZero"], unfollowed := true, recurses := true, named := ["unicode/utf8.first", "unicode/utf8.acceptRanges", "internal/bytealg.MaxLen"], apart := false, laid := [("unicode/utf8.acceptRanges", laid_unicode_utf8_acceptRanges), ("unicode/utf8.first", laid_unicode_utf8_first)], narrowed := true }
def FnExactSignOfWordUptoSaid : Prop := fnExactSignOfWordUptoRow.holds Tryz.pinned (OpenSpec.upto fnExactSignOfWordSpec)

/-- 'laws.FnExactOrderOfWord', WHERE WHAT IT READS IS OF BULK AT MOST 1048576: true; the input reads as it did. -/
def fnExactOrderOfWordUptoRow : OpenClaim := { program := "ytdffgeoegdkiaaagreatdoor", sum := "c4ba4e3da9dec5bb826f0ca7eb93cdf44b6141da41419253f9f693f9f1fb376f", func := "loop.example/g01199/laws.FnExactOrderOfWord", spec := "fnExactOrderOfWord", inPlace := ["internal/bytealg.CountString", "internal/bytealg.IndexByteString", "internal/bytealg.IndexString", "internal/abi.NoEscape", "internal/bytealg.MakeNoZero"], unfollowed := true, recurses := true, named := ["unicode/utf8.first", "unicode/utf8.acceptRanges", "internal/bytealg.MaxLen"], apart := false, laid := [("unicode/utf8.acceptRanges", laid_unicode_utf8_acceptRanges), ("unicode/utf8.first", laid_unicode_utf8_first)], narrowed := true }
def FnExactOrderOfWordUptoSaid : Prop := fnExactOrderOfWordUptoRow.holds Tryz.pinned (OpenSpec.upto fnExactOrderOfWordSpec)

/-- 'laws.FnExactGateNumber', WHERE WHAT IT READS IS OF BULK AT MOST 1048576: true; the input reads as it did. -/
def fnExactGateNumberUptoRow : OpenClaim := { program := "ytdffgeoegdkiaaagreatdoor", sum := "c4ba4e3da9dec5bb826f0ca7eb93cdf44b6141da41419253f9f693f9f1fb376f", func := "loop.example/g01199/laws.FnExactGateNumber", spec := "fnExactGateNumber", inPlace := ["internal/bytealg.CountString", "internal/bytealg.IndexByteString", "internal/bytealg.IndexString", "internal/abi.NoEscape", "internal/bytealg.MakeNoZero"], unfollowed := true, recurses := true, named := ["unicode/utf8.first", "unicode/utf8.acceptRanges", "internal/bytealg.MaxLen"], apart := false, laid := [("unicode/utf8.acceptRanges", laid_unicode_utf8_acceptRanges), ("unicode/utf8.first", laid_unicode_utf8_first)], narrowed := true }
def FnExactGateNumberUptoSaid : Prop := fnExactGateNumberUptoRow.holds Tryz.pinned (OpenSpec.upto fnExactGateNumberSpec)

/-- 'laws.FnExactCyclesOfWord', WHERE WHAT IT READS IS OF BULK AT MOST 1048576: true; the input reads as it did. -/
def fnExactCyclesOfWordUptoRow : OpenClaim := { program := "ytdffgeoegdkiaaagreatdoor", sum := "c4ba4e3da9dec5bb826f0ca7eb93cdf44b6141da41419253f9f693f9f1fb376f", func := "loop.example/g01199/laws.FnExactCyclesOfWord", spec := "fnExactCyclesOfWord", inPlace := ["internal/bytealg.CountString", "internal/bytealg.IndexByteString", "internal/bytealg.IndexString", "internal/abi.NoEscape", "internal/bytealg.MakeNoZero"], unfollowed := true, recurses := true, named := ["unicode/utf8.first", "unicode/utf8.acceptRanges", "internal/bytealg.MaxLen"], apart := false, laid := [("unicode/utf8.acceptRanges", laid_unicode_utf8_acceptRanges), ("unicode/utf8.first", laid_unicode_utf8_first)], narrowed := true }
def FnExactCyclesOfWordUptoSaid : Prop := fnExactCyclesOfWordUptoRow.holds Tryz.pinned (OpenSpec.upto fnExactCyclesOfWordSpec)

/-- 'laws.FnExactCountGates', WHERE WHAT IT READS IS OF BULK AT MOST 1048576: true; the input reads as it did. -/
def fnExactCountGatesUptoRow : OpenClaim := { program := "ytdffgeoegdkiaaagreatdoor", sum := "c4ba4e3da9dec5bb826f0ca7eb93cdf44b6141da41419253f9f693f9f1fb376f", func := "loop.example/g01199/laws.FnExactCountGates", spec := "fnExactCountGates", inPlace := ["internal/bytealg.CountString", "internal/bytealg.IndexByteString", "internal/bytealg.IndexString", "internal/abi.NoEscape", "internal/bytealg.MakeNoZero"], unfollowed := true, recurses := true, named := ["unicode/utf8.first", "unicode/utf8.acceptRanges", "internal/bytealg.MaxLen"], apart := false, laid := [("unicode/utf8.acceptRanges", laid_unicode_utf8_acceptRanges), ("unicode/utf8.first", laid_unicode_utf8_first)], narrowed := true }
def FnExactCountGatesUptoSaid : Prop := fnExactCountGatesUptoRow.holds Tryz.pinned (OpenSpec.upto fnExactCountGatesSpec)

/-- 'laws.FnExactWordForGate', WHERE WHAT IT READS IS OF BULK AT MOST 1048576: true; the input reads as it did. -/
def fnExactWordForGateUptoRow : OpenClaim := { program := "ytdffgeoegdkiaaagreatdoor", sum := "c4ba4e3da9dec5bb826f0ca7eb93cdf44b6141da41419253f9f693f9f1fb376f", func := "loop.example/g01199/laws.FnExactWordForGate", spec := "fnExactWordForGate", inPlace := ["internal/bytealg.CountString", "internal/bytealg.IndexByteString", "internal/bytealg.IndexString", "internal/abi.NoEscape", "internal/bytealg.MakeNoZero"], unfollowed := true, recurses := true, named := ["unicode/utf8.first", "unicode/utf8.acceptRanges", "internal/bytealg.MaxLen"], apart := false, laid := [("unicode/utf8.acceptRanges", laid_unicode_utf8_acceptRanges), ("unicode/utf8.first", laid_unicode_utf8_first)], narrowed := true }
def FnExactWordForGateUptoSaid : Prop := fnExactWordForGateUptoRow.holds Tryz.pinned (OpenSpec.upto fnExactWordForGateSpec)

/-- 'laws.FnExactIsReversible', WHERE WHAT IT READS IS OF BULK AT MOST 1048576: true; the input reads as it did. -/
def fnExactIsReversibleUptoRow : OpenClaim := { program := "ytdffgeoegdkiaaagreatdoor", sum := "c4ba4e3da9dec5bb826f0ca7eb93cdf44b6141da41419253f9f693f9f1fb376f", func := "loop.example/g01199/laws.FnExactIsReversible", spec := "fnExactIsReversible", inPlace := ["internal/bytealg.CountString", "internal/bytealg.IndexByteString", "internal/bytealg.IndexString", "internal/abi.NoEscape", "internal/bytealg.MakeNoZero"], unfollowed := true, recurses := true, named := ["unicode/utf8.first", "unicode/utf8.acceptRanges", "internal/bytealg.MaxLen"], apart := false, laid := [("unicode/utf8.acceptRanges", laid_unicode_utf8_acceptRanges), ("unicode/utf8.first", laid_unicode_utf8_first)], narrowed := true }
def FnExactIsReversibleUptoSaid : Prop := fnExactIsReversibleUptoRow.holds Tryz.pinned (OpenSpec.upto fnExactIsReversibleSpec)

/-- 'laws.FnExactReplayOf', WHERE WHAT IT READS IS OF BULK AT MOST 1048576: true; the input reads as it did. -/
def fnExactReplayOfUptoRow : OpenClaim := { program := "ytdffgeoegdkiaaagreatdoor", sum := "c4ba4e3da9dec5bb826f0ca7eb93cdf44b6141da41419253f9f693f9f1fb376f", func := "loop.example/g01199/laws.FnExactReplayOf", spec := "fnExactReplayOf", inPlace := ["internal/bytealg.CountString", "internal/bytealg.IndexByteString", "internal/bytealg.IndexString", "internal/abi.NoEscape", "internal/bytealg.MakeNoZero"], unfollowed := true, recurses := true, named := ["unicode/utf8.first", "unicode/utf8.acceptRanges", "internal/bytealg.MaxLen"], apart := false, laid := [("unicode/utf8.acceptRanges", laid_unicode_utf8_acceptRanges), ("unicode/utf8.first", laid_unicode_utf8_first)], narrowed := true }
def FnExactReplayOfUptoSaid : Prop := fnExactReplayOfUptoRow.holds Tryz.pinned (OpenSpec.upto fnExactReplayOfSpec)

/-- 'laws.FnExactCountCorner', WHERE WHAT IT READS IS OF BULK AT MOST 1048576: true; the input reads as it did. -/
def fnExactCountCornerUptoRow : OpenClaim := { program := "ytdffgeoegdkiaaagreatdoor", sum := "c4ba4e3da9dec5bb826f0ca7eb93cdf44b6141da41419253f9f693f9f1fb376f", func := "loop.example/g01199/laws.FnExactCountCorner", spec := "fnExactCountCorner", inPlace := ["internal/bytealg.CountString", "internal/bytealg.IndexByteString", "internal/bytealg.IndexString", "internal/abi.NoEscape", "internal/bytealg.MakeNoZero"], unfollowed := true, recurses := true, named := ["unicode/utf8.first", "unicode/utf8.acceptRanges", "internal/bytealg.MaxLen"], apart := false, laid := [("unicode/utf8.acceptRanges", laid_unicode_utf8_acceptRanges), ("unicode/utf8.first", laid_unicode_utf8_first)], narrowed := true }
def FnExactCountCornerUptoSaid : Prop := fnExactCountCornerUptoRow.holds Tryz.pinned (OpenSpec.upto fnExactCountCornerSpec)

/-- 'laws.FnExactAllStill', WHERE WHAT IT READS IS OF BULK AT MOST 1048576: true; the input reads as it did. -/
def fnExactAllStillUptoRow : OpenClaim := { program := "ytdffgeoegdkiaaagreatdoor", sum := "c4ba4e3da9dec5bb826f0ca7eb93cdf44b6141da41419253f9f693f9f1fb376f", func := "loop.example/g01199/laws.FnExactAllStill", spec := "fnExactAllStill", inPlace := ["internal/bytealg.CountString", "internal/bytealg.IndexByteString", "internal/bytealg.IndexString", "internal/abi.NoEscape", "internal/bytealg.MakeNoZero"], unfollowed := true, recurses := true, named := ["unicode/utf8.first", "unicode/utf8.acceptRanges", "internal/bytealg.MaxLen"], apart := false, laid := [("unicode/utf8.acceptRanges", laid_unicode_utf8_acceptRanges), ("unicode/utf8.first", laid_unicode_utf8_first)], narrowed := true }
def FnExactAllStillUptoSaid : Prop := fnExactAllStillUptoRow.holds Tryz.pinned (OpenSpec.upto fnExactAllStillSpec)

end Rows
end Go.Proofs.YtdffgeoegdkiaaaGreatDoor
