/-
  DERIVED. GIVEN WITH THE SEED: THE CARDS: each row of YtonohffniohehaaGreatDoorRows.lean that lists a variable, with what it lists TIED to the program's text (the seventh form; the later family's looks); each row that meets fmt, with fmt's text TOLD by the authors' own Lean function (tested against real Go, not proved from fmt's source: count such statements apart). THE CARD IS WHAT COUNTS. Prove the row's statement (the work); the ties are given (YtonohffniohehaaGreatDoorTie.lean); close each card by the builder's one call (the guide's Derived/Test/ToyasCard.lean, 'card_holds'). Laid BY PROGRAM, IN A SANDBOX (cutbox-door.mjs). By AI agents, Wed Nov 11 2026. No macro, syntax, notation, axiom, sorry.
-/
import Derived.Test.YtonohffniohehaaGreatDoorRows
import GoSem.ClaimSeven
namespace Go.Proofs.YtonohffniohehaaGreatDoor
namespace Rows

/-- THE TIED CARD OF 'crimplaw07.SegmentsUnits'. -/
def segmentsUnitsCard : Claim7 := { stood := { row := segmentsUnitsRow, standIns := [], harness := (true, "25f57dac7029fd92d5eecce142c132ba71e9a3aaa4ab11d9570bb44fe62bc80d"), looks := true }, kinds := [], alts := [], laidByText := true, laidKinds := [.data, .data, .data, .data, .sentinel, .sentinel, .data, .pinned], laidTests := true, laidLooks := .later }
def SegmentsUnitsCardSaid : Prop := Claim7.holds Tryz.pinned (.plain (OpenSpec.ofChange segmentsUnitsSpec)) segmentsUnitsCard

/-- THE TIED CARD OF 'crimplaw07.SegmentsOf'. -/
def segmentsOfCard : Claim7 := { stood := { row := segmentsOfRow, standIns := [], harness := (true, "25f57dac7029fd92d5eecce142c132ba71e9a3aaa4ab11d9570bb44fe62bc80d"), looks := true }, kinds := [], alts := [], laidByText := true, laidKinds := [.data, .data, .data, .data, .sentinel, .sentinel, .data, .pinned], laidTests := true, laidLooks := .later }
def SegmentsOfCardSaid : Prop := Claim7.holds Tryz.pinned (.plain (OpenSpec.ofChange segmentsOfSpec)) segmentsOfCard

/-- THE TIED CARD OF 'crimplaw07.SegmentsPattern'. -/
def segmentsPatternCard : Claim7 := { stood := { row := segmentsPatternRow, standIns := [], harness := (true, "25f57dac7029fd92d5eecce142c132ba71e9a3aaa4ab11d9570bb44fe62bc80d"), looks := true }, kinds := [], alts := [], laidByText := true, laidKinds := [.data, .data, .data, .data, .sentinel, .sentinel, .data, .pinned], laidTests := true, laidLooks := .later }
def SegmentsPatternCardSaid : Prop := Claim7.holds Tryz.pinned (.plain (OpenSpec.ofChange segmentsPatternSpec)) segmentsPatternCard

/-- THE TIED CARD OF 'crimplaw07.SegmentsErrors'. -/
def segmentsErrorsCard : Claim7 := { stood := { row := segmentsErrorsRow, standIns := [], harness := (true, "25f57dac7029fd92d5eecce142c132ba71e9a3aaa4ab11d9570bb44fe62bc80d"), looks := true }, kinds := [], alts := [], laidByText := true, laidKinds := [.data, .data, .data, .data, .sentinel, .sentinel, .data, .pinned], laidTests := true, laidLooks := .later }
def SegmentsErrorsCardSaid : Prop := Claim7.holds Tryz.pinned (.plain (OpenSpec.ofChange segmentsErrorsSpec)) segmentsErrorsCard

/-- THE TIED CARD OF 'crimplaw07.SegmentsText'. -/
def segmentsTextCard : Claim7 := { stood := { row := segmentsTextRow, standIns := [], harness := (true, "25f57dac7029fd92d5eecce142c132ba71e9a3aaa4ab11d9570bb44fe62bc80d"), looks := true }, kinds := [], alts := [], laidByText := true, laidKinds := [.data, .data, .data, .data, .sentinel, .sentinel, .data, .pinned], laidTests := true, laidLooks := .later }
def SegmentsTextCardSaid : Prop := Claim7.holds Tryz.pinned (.plain (OpenSpec.ofChange segmentsTextSpec)) segmentsTextCard

/-- THE TIED CARD OF 'crimplaw07.SegmentsTurned'. -/
def segmentsTurnedCard : Claim7 := { stood := { row := segmentsTurnedRow, standIns := [], harness := (true, "25f57dac7029fd92d5eecce142c132ba71e9a3aaa4ab11d9570bb44fe62bc80d"), looks := true }, kinds := [], alts := [], laidByText := true, laidKinds := [.data, .data, .data, .data, .sentinel, .sentinel, .data, .data, .pinned], laidTests := true, laidLooks := .later }
def SegmentsTurnedCardSaid : Prop := Claim7.holds Tryz.pinned (.plain (OpenSpec.ofChange segmentsTurnedSpec)) segmentsTurnedCard

/-- THE TIED CARD OF 'crimplaw07.SegmentsKnown'. -/
def segmentsKnownCard : Claim7 := { stood := { row := segmentsKnownRow, standIns := [], harness := (true, "25f57dac7029fd92d5eecce142c132ba71e9a3aaa4ab11d9570bb44fe62bc80d"), looks := true }, kinds := [], alts := [], laidByText := true, laidKinds := [.data, .data, .data, .data, .sentinel, .sentinel, .data, .data, .pinned], laidTests := true, laidLooks := .later }
def SegmentsKnownCardSaid : Prop := Claim7.holds Tryz.pinned (.plain (OpenSpec.ofChange segmentsKnownSpec)) segmentsKnownCard

/-- THE SECOND FORM's CARD OF 'crimplaw07.SegmentsUnits'. -/
def segmentsUnitsUptoCard : Claim7 := { stood := { row := segmentsUnitsUptoRow, standIns := [], harness := (true, "25f57dac7029fd92d5eecce142c132ba71e9a3aaa4ab11d9570bb44fe62bc80d"), looks := true }, kinds := [], alts := [], laidByText := true, laidKinds := [.data, .data, .data, .data, .sentinel, .sentinel, .data, .pinned], laidTests := true, laidLooks := .later }
def SegmentsUnitsUptoCardSaid : Prop := Claim7.holds Tryz.pinned (.plain (OpenSpec.upto segmentsUnitsSpec)) segmentsUnitsUptoCard

/-- THE SECOND FORM's CARD OF 'crimplaw07.SegmentsOf'. -/
def segmentsOfUptoCard : Claim7 := { stood := { row := segmentsOfUptoRow, standIns := [], harness := (true, "25f57dac7029fd92d5eecce142c132ba71e9a3aaa4ab11d9570bb44fe62bc80d"), looks := true }, kinds := [], alts := [], laidByText := true, laidKinds := [.data, .data, .data, .data, .sentinel, .sentinel, .data, .pinned], laidTests := true, laidLooks := .later }
def SegmentsOfUptoCardSaid : Prop := Claim7.holds Tryz.pinned (.plain (OpenSpec.upto segmentsOfSpec)) segmentsOfUptoCard

/-- THE SECOND FORM's CARD OF 'crimplaw07.SegmentsPattern'. -/
def segmentsPatternUptoCard : Claim7 := { stood := { row := segmentsPatternUptoRow, standIns := [], harness := (true, "25f57dac7029fd92d5eecce142c132ba71e9a3aaa4ab11d9570bb44fe62bc80d"), looks := true }, kinds := [], alts := [], laidByText := true, laidKinds := [.data, .data, .data, .data, .sentinel, .sentinel, .data, .pinned], laidTests := true, laidLooks := .later }
def SegmentsPatternUptoCardSaid : Prop := Claim7.holds Tryz.pinned (.plain (OpenSpec.upto segmentsPatternSpec)) segmentsPatternUptoCard

/-- THE SECOND FORM's CARD OF 'crimplaw07.SegmentsErrors'. -/
def segmentsErrorsUptoCard : Claim7 := { stood := { row := segmentsErrorsUptoRow, standIns := [], harness := (true, "25f57dac7029fd92d5eecce142c132ba71e9a3aaa4ab11d9570bb44fe62bc80d"), looks := true }, kinds := [], alts := [], laidByText := true, laidKinds := [.data, .data, .data, .data, .sentinel, .sentinel, .data, .pinned], laidTests := true, laidLooks := .later }
def SegmentsErrorsUptoCardSaid : Prop := Claim7.holds Tryz.pinned (.plain (OpenSpec.upto segmentsErrorsSpec)) segmentsErrorsUptoCard

/-- THE SECOND FORM's CARD OF 'crimplaw07.SegmentsText'. -/
def segmentsTextUptoCard : Claim7 := { stood := { row := segmentsTextUptoRow, standIns := [], harness := (true, "25f57dac7029fd92d5eecce142c132ba71e9a3aaa4ab11d9570bb44fe62bc80d"), looks := true }, kinds := [], alts := [], laidByText := true, laidKinds := [.data, .data, .data, .data, .sentinel, .sentinel, .data, .pinned], laidTests := true, laidLooks := .later }
def SegmentsTextUptoCardSaid : Prop := Claim7.holds Tryz.pinned (.plain (OpenSpec.upto segmentsTextSpec)) segmentsTextUptoCard

/-- THE SECOND FORM's CARD OF 'crimplaw07.SegmentsTurned'. -/
def segmentsTurnedUptoCard : Claim7 := { stood := { row := segmentsTurnedUptoRow, standIns := [], harness := (true, "25f57dac7029fd92d5eecce142c132ba71e9a3aaa4ab11d9570bb44fe62bc80d"), looks := true }, kinds := [], alts := [], laidByText := true, laidKinds := [.data, .data, .data, .data, .sentinel, .sentinel, .data, .data, .pinned], laidTests := true, laidLooks := .later }
def SegmentsTurnedUptoCardSaid : Prop := Claim7.holds Tryz.pinned (.plain (OpenSpec.upto segmentsTurnedSpec)) segmentsTurnedUptoCard

/-- THE SECOND FORM's CARD OF 'crimplaw07.SegmentsKnown'. -/
def segmentsKnownUptoCard : Claim7 := { stood := { row := segmentsKnownUptoRow, standIns := [], harness := (true, "25f57dac7029fd92d5eecce142c132ba71e9a3aaa4ab11d9570bb44fe62bc80d"), looks := true }, kinds := [], alts := [], laidByText := true, laidKinds := [.data, .data, .data, .data, .sentinel, .sentinel, .data, .data, .pinned], laidTests := true, laidLooks := .later }
def SegmentsKnownUptoCardSaid : Prop := Claim7.holds Tryz.pinned (.plain (OpenSpec.upto segmentsKnownSpec)) segmentsKnownUptoCard
end Rows
end Go.Proofs.YtonohffniohehaaGreatDoor
