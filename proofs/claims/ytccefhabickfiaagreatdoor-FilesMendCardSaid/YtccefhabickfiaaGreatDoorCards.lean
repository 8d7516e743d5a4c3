/-
  DERIVED. GIVEN WITH THE SEED: THE CARDS: each row of YtccefhabickfiaaGreatDoorRows.lean that lists a variable, with what it lists TIED to the program's text (the seventh form; the later family's looks); each row that meets fmt, with fmt's text TOLD by the authors' own Lean function (tested against real Go, not proved from fmt's source: count such statements apart). THE CARD IS WHAT COUNTS. Prove the row's statement (the work); the ties are given (YtccefhabickfiaaGreatDoorTie.lean); close each card by the builder's one call (the guide's Derived/Test/ToyasCard.lean, 'card_holds'). Laid BY PROGRAM, IN A SANDBOX (cutbox-door.mjs). By AI agents, Wed Nov 11 2026. No macro, syntax, notation, axiom, sorry.
-/
import Derived.Test.YtccefhabickfiaaGreatDoorRows
import GoSem.ClaimSeven
namespace Go.Proofs.YtccefhabickfiaaGreatDoor
namespace Rows

/-- THE TIED CARD OF 'crimplaw11.FilesSum'. -/
def filesSumCard : Claim7 := { stood := { row := filesSumRow, standIns := [], harness := (true, "b3bd05c67384c84474d8b746c2c0c7e015b146a8b61302400a5f99bcd9c704b5"), looks := true }, kinds := [], alts := [], laidByText := true, laidKinds := [.data, .data, .data, .data, .sentinel, .sentinel, .data, .pinned], laidTests := true, laidLooks := .later }
def FilesSumCardSaid : Prop := Claim7.holds Tryz.pinned (.plain (OpenSpec.ofChange filesSumSpec)) filesSumCard

/-- THE TIED CARD OF 'crimplaw11.FilesRead'. -/
def filesReadCard : Claim7 := { stood := { row := filesReadRow, standIns := [], harness := (true, "b3bd05c67384c84474d8b746c2c0c7e015b146a8b61302400a5f99bcd9c704b5"), looks := true }, kinds := [], alts := [], laidByText := true, laidKinds := [.data, .data, .data, .data, .sentinel, .sentinel, .data, .pinned], laidTests := true, laidLooks := .later }
def FilesReadCardSaid : Prop := Claim7.holds Tryz.pinned (.plain (OpenSpec.ofChange filesReadSpec)) filesReadCard

/-- THE TIED CARD OF 'crimplaw11.FilesLines'. -/
def filesLinesCard : Claim7 := { stood := { row := filesLinesRow, standIns := [], harness := (true, "b3bd05c67384c84474d8b746c2c0c7e015b146a8b61302400a5f99bcd9c704b5"), looks := true }, kinds := [], alts := [], laidByText := true, laidKinds := [.data, .data, .data, .data, .sentinel, .sentinel, .data, .pinned], laidTests := true, laidLooks := .later }
def FilesLinesCardSaid : Prop := Claim7.holds Tryz.pinned (.plain (OpenSpec.ofChange filesLinesSpec)) filesLinesCard

/-- THE TIED CARD OF 'crimplaw11.FilesChanged'. -/
def filesChangedCard : Claim7 := { stood := { row := filesChangedRow, standIns := [], harness := (true, "b3bd05c67384c84474d8b746c2c0c7e015b146a8b61302400a5f99bcd9c704b5"), looks := true }, kinds := [], alts := [], laidByText := true, laidKinds := [.data, .data, .data, .data, .sentinel, .sentinel, .data, .pinned], laidTests := true, laidLooks := .later }
def FilesChangedCardSaid : Prop := Claim7.holds Tryz.pinned (.plain (OpenSpec.ofChange filesChangedSpec)) filesChangedCard

/-- THE TIED CARD OF 'crimplaw11.FilesBack'. -/
def filesBackCard : Claim7 := { stood := { row := filesBackRow, standIns := [], harness := (true, "b3bd05c67384c84474d8b746c2c0c7e015b146a8b61302400a5f99bcd9c704b5"), looks := true }, kinds := [], alts := [], laidByText := true, laidKinds := [.data, .data, .data, .data, .sentinel, .sentinel, .data, .pinned], laidTests := true, laidLooks := .later }
def FilesBackCardSaid : Prop := Claim7.holds Tryz.pinned (.plain (OpenSpec.ofChange filesBackSpec)) filesBackCard

/-- THE TIED CARD OF 'crimplaw11.FilesMend'. -/
def filesMendCard : Claim7 := { stood := { row := filesMendRow, standIns := [], harness := (true, "b3bd05c67384c84474d8b746c2c0c7e015b146a8b61302400a5f99bcd9c704b5"), looks := true }, kinds := [], alts := [], laidByText := true, laidKinds := [.data, .data, .data, .data, .sentinel, .sentinel, .data, .pinned], laidTests := true, laidLooks := .later }
def FilesMendCardSaid : Prop := Claim7.holds Tryz.pinned (.plain (OpenSpec.ofChange filesMendSpec)) filesMendCard

/-- THE TIED CARD OF 'crimplaw11.FilesErrors'. -/
def filesErrorsCard : Claim7 := { stood := { row := filesErrorsRow, standIns := [], harness := (true, "b3bd05c67384c84474d8b746c2c0c7e015b146a8b61302400a5f99bcd9c704b5"), looks := true }, kinds := [], alts := [], laidByText := true, laidKinds := [.data, .data, .data, .data, .sentinel, .sentinel, .data, .pinned], laidTests := true, laidLooks := .later }
def FilesErrorsCardSaid : Prop := Claim7.holds Tryz.pinned (.plain (OpenSpec.ofChange filesErrorsSpec)) filesErrorsCard

/-- THE TIED CARD OF 'crimplaw11.FilesKnown'. -/
def filesKnownCard : Claim7 := { stood := { row := filesKnownRow, standIns := [], harness := (true, "b3bd05c67384c84474d8b746c2c0c7e015b146a8b61302400a5f99bcd9c704b5"), looks := true }, kinds := [], alts := [], laidByText := true, laidKinds := [.data, .data, .data, .data, .sentinel, .sentinel, .data, .pinned], laidTests := true, laidLooks := .later }
def FilesKnownCardSaid : Prop := Claim7.holds Tryz.pinned (.plain (OpenSpec.ofChange filesKnownSpec)) filesKnownCard

/-- THE SECOND FORM's CARD OF 'crimplaw11.FilesSum'. -/
def filesSumUptoCard : Claim7 := { stood := { row := filesSumUptoRow, standIns := [], harness := (true, "b3bd05c67384c84474d8b746c2c0c7e015b146a8b61302400a5f99bcd9c704b5"), looks := true }, kinds := [], alts := [], laidByText := true, laidKinds := [.data, .data, .data, .data, .sentinel, .sentinel, .data, .pinned], laidTests := true, laidLooks := .later }
def FilesSumUptoCardSaid : Prop := Claim7.holds Tryz.pinned (.plain (OpenSpec.upto filesSumSpec)) filesSumUptoCard

/-- THE SECOND FORM's CARD OF 'crimplaw11.FilesRead'. -/
def filesReadUptoCard : Claim7 := { stood := { row := filesReadUptoRow, standIns := [], harness := (true, "b3bd05c67384c84474d8b746c2c0c7e015b146a8b61302400a5f99bcd9c704b5"), looks := true }, kinds := [], alts := [], laidByText := true, laidKinds := [.data, .data, .data, .data, .sentinel, .sentinel, .data, .pinned], laidTests := true, laidLooks := .later }
def FilesReadUptoCardSaid : Prop := Claim7.holds Tryz.pinned (.plain (OpenSpec.upto filesReadSpec)) filesReadUptoCard

/-- THE SECOND FORM's CARD OF 'crimplaw11.FilesLines'. -/
def filesLinesUptoCard : Claim7 := { stood := { row := filesLinesUptoRow, standIns := [], harness := (true, "b3bd05c67384c84474d8b746c2c0c7e015b146a8b61302400a5f99bcd9c704b5"), looks := true }, kinds := [], alts := [], laidByText := true, laidKinds := [.data, .data, .data, .data, .sentinel, .sentinel, .data, .pinned], laidTests := true, laidLooks := .later }
def FilesLinesUptoCardSaid : Prop := Claim7.holds Tryz.pinned (.plain (OpenSpec.upto filesLinesSpec)) filesLinesUptoCard

/-- THE SECOND FORM's CARD OF 'crimplaw11.FilesChanged'. -/
def filesChangedUptoCard : Claim7 := { stood := { row := filesChangedUptoRow, standIns := [], harness := (true, "b3bd05c67384c84474d8b746c2c0c7e015b146a8b61302400a5f99bcd9c704b5"), looks := true }, kinds := [], alts := [], laidByText := true, laidKinds := [.data, .data, .data, .data, .sentinel, .sentinel, .data, .pinned], laidTests := true, laidLooks := .later }
def FilesChangedUptoCardSaid : Prop := Claim7.holds Tryz.pinned (.plain (OpenSpec.upto filesChangedSpec)) filesChangedUptoCard

/-- THE SECOND FORM's CARD OF 'crimplaw11.FilesBack'. -/
def filesBackUptoCard : Claim7 := { stood := { row := filesBackUptoRow, standIns := [], harness := (true, "b3bd05c67384c84474d8b746c2c0c7e015b146a8b61302400a5f99bcd9c704b5"), looks := true }, kinds := [], alts := [], laidByText := true, laidKinds := [.data, .data, .data, .data, .sentinel, .sentinel, .data, .pinned], laidTests := true, laidLooks := .later }
def FilesBackUptoCardSaid : Prop := Claim7.holds Tryz.pinned (.plain (OpenSpec.upto filesBackSpec)) filesBackUptoCard

/-- THE SECOND FORM's CARD OF 'crimplaw11.FilesMend'. -/
def filesMendUptoCard : Claim7 := { stood := { row := filesMendUptoRow, standIns := [], harness := (true, "b3bd05c67384c84474d8b746c2c0c7e015b146a8b61302400a5f99bcd9c704b5"), looks := true }, kinds := [], alts := [], laidByText := true, laidKinds := [.data, .data, .data, .data, .sentinel, .sentinel, .data, .pinned], laidTests := true, laidLooks := .later }
def FilesMendUptoCardSaid : Prop := Claim7.holds Tryz.pinned (.plain (OpenSpec.upto filesMendSpec)) filesMendUptoCard

/-- THE SECOND FORM's CARD OF 'crimplaw11.FilesErrors'. -/
def filesErrorsUptoCard : Claim7 := { stood := { row := filesErrorsUptoRow, standIns := [], harness := (true, "b3bd05c67384c84474d8b746c2c0c7e015b146a8b61302400a5f99bcd9c704b5"), looks := true }, kinds := [], alts := [], laidByText := true, laidKinds := [.data, .data, .data, .data, .sentinel, .sentinel, .data, .pinned], laidTests := true, laidLooks := .later }
def FilesErrorsUptoCardSaid : Prop := Claim7.holds Tryz.pinned (.plain (OpenSpec.upto filesErrorsSpec)) filesErrorsUptoCard

/-- THE SECOND FORM's CARD OF 'crimplaw11.FilesKnown'. -/
def filesKnownUptoCard : Claim7 := { stood := { row := filesKnownUptoRow, standIns := [], harness := (true, "b3bd05c67384c84474d8b746c2c0c7e015b146a8b61302400a5f99bcd9c704b5"), looks := true }, kinds := [], alts := [], laidByText := true, laidKinds := [.data, .data, .data, .data, .sentinel, .sentinel, .data, .pinned], laidTests := true, laidLooks := .later }
def FilesKnownUptoCardSaid : Prop := Claim7.holds Tryz.pinned (.plain (OpenSpec.upto filesKnownSpec)) filesKnownUptoCard
end Rows
end Go.Proofs.YtccefhabickfiaaGreatDoor
