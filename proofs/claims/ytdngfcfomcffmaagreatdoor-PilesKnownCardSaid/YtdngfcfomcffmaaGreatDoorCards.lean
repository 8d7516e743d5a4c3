/-
  DERIVED. GIVEN WITH THE SEED: THE CARDS: each row of YtdngfcfomcffmaaGreatDoorRows.lean that lists a variable, with what it lists TIED to the program's text (the seventh form; the later family's looks); each row that meets fmt, with fmt's text TOLD by the authors' own Lean function (tested against real Go, not proved from fmt's source: count such statements apart). THE CARD IS WHAT COUNTS. Prove the row's statement (the work); the ties are given (YtdngfcfomcffmaaGreatDoorTie.lean); close each card by the builder's one call (the guide's Derived/Test/ToyasCard.lean, 'card_holds'). Laid BY PROGRAM, IN A SANDBOX (cutbox-door.mjs). By AI agents, Wed Nov 11 2026. No macro, syntax, notation, axiom, sorry.
-/
import Derived.Test.YtdngfcfomcffmaaGreatDoorRows
import GoSem.ClaimSeven
namespace Go.Proofs.YtdngfcfomcffmaaGreatDoor
namespace Rows

/-- THE TIED CARD OF 'crimplaw17.PilesLeast'. -/
def pilesLeastCard : Claim7 := { stood := { row := pilesLeastRow, standIns := [], harness := (true, "b36a41db904ee317a95ac6bd111d360462c7b9af8e99c3fcb5e5b15ba8a85503"), looks := true }, kinds := [], alts := [], laidByText := true, laidKinds := [.data, .data, .data, .data, .sentinel, .sentinel, .widerDeep, .pinned], laidTests := true, laidLooks := .later }
def PilesLeastCardSaid : Prop := Claim7.holds Tryz.pinned (.plain (OpenSpec.ofChange pilesLeastSpec)) pilesLeastCard

/-- THE TIED CARD OF 'crimplaw17.PilesProfile'. -/
def pilesProfileCard : Claim7 := { stood := { row := pilesProfileRow, standIns := [], harness := (true, "b36a41db904ee317a95ac6bd111d360462c7b9af8e99c3fcb5e5b15ba8a85503"), looks := true }, kinds := [], alts := [], laidByText := true, laidKinds := [.data, .data, .data, .data, .sentinel, .sentinel, .widerDeep, .pinned], laidTests := true, laidLooks := .later }
def PilesProfileCardSaid : Prop := Claim7.holds Tryz.pinned (.plain (OpenSpec.ofChange pilesProfileSpec)) pilesProfileCard

/-- THE TIED CARD OF 'crimplaw17.PilesCheck'. -/
def pilesCheckCard : Claim7 := { stood := { row := pilesCheckRow, standIns := [], harness := (true, "b36a41db904ee317a95ac6bd111d360462c7b9af8e99c3fcb5e5b15ba8a85503"), looks := true }, kinds := [], alts := [], laidByText := true, laidKinds := [.data, .data, .data, .data, .sentinel, .sentinel, .widerDeep, .pinned], laidTests := true, laidLooks := .later }
def PilesCheckCardSaid : Prop := Claim7.holds Tryz.pinned (.plain (OpenSpec.ofChange pilesCheckSpec)) pilesCheckCard

/-- THE TIED CARD OF 'crimplaw17.PilesKinds'. -/
def pilesKindsCard : Claim7 := { stood := { row := pilesKindsRow, standIns := [], harness := (true, "b36a41db904ee317a95ac6bd111d360462c7b9af8e99c3fcb5e5b15ba8a85503"), looks := true }, kinds := [], alts := [], laidByText := true, laidKinds := [.data, .data, .data, .data, .sentinel, .sentinel, .widerDeep, .pinned], laidTests := true, laidLooks := .later }
def PilesKindsCardSaid : Prop := Claim7.holds Tryz.pinned (.plain (OpenSpec.ofChange pilesKindsSpec)) pilesKindsCard

/-- THE TIED CARD OF 'crimplaw17.PilesErrors'. -/
def pilesErrorsCard : Claim7 := { stood := { row := pilesErrorsRow, standIns := [], harness := (true, "b36a41db904ee317a95ac6bd111d360462c7b9af8e99c3fcb5e5b15ba8a85503"), looks := true }, kinds := [], alts := [], laidByText := true, laidKinds := [.data, .data, .data, .data, .sentinel, .sentinel, .widerDeep, .pinned], laidTests := true, laidLooks := .later }
def PilesErrorsCardSaid : Prop := Claim7.holds Tryz.pinned (.plain (OpenSpec.ofChange pilesErrorsSpec)) pilesErrorsCard

/-- THE TIED CARD OF 'crimplaw17.PilesKnown'. -/
def pilesKnownCard : Claim7 := { stood := { row := pilesKnownRow, standIns := [], harness := (true, "b36a41db904ee317a95ac6bd111d360462c7b9af8e99c3fcb5e5b15ba8a85503"), looks := true }, kinds := [], alts := [], laidByText := true, laidKinds := [.data, .data, .data, .data, .sentinel, .sentinel, .widerDeep, .pinned], laidTests := true, laidLooks := .later }
def PilesKnownCardSaid : Prop := Claim7.holds Tryz.pinned (.plain (OpenSpec.ofChange pilesKnownSpec)) pilesKnownCard

/-- THE SECOND FORM's CARD OF 'crimplaw17.PilesLeast'. -/
def pilesLeastUptoCard : Claim7 := { stood := { row := pilesLeastUptoRow, standIns := [], harness := (true, "b36a41db904ee317a95ac6bd111d360462c7b9af8e99c3fcb5e5b15ba8a85503"), looks := true }, kinds := [], alts := [], laidByText := true, laidKinds := [.data, .data, .data, .data, .sentinel, .sentinel, .widerDeep, .pinned], laidTests := true, laidLooks := .later }
def PilesLeastUptoCardSaid : Prop := Claim7.holds Tryz.pinned (.plain (OpenSpec.upto pilesLeastSpec)) pilesLeastUptoCard

/-- THE SECOND FORM's CARD OF 'crimplaw17.PilesProfile'. -/
def pilesProfileUptoCard : Claim7 := { stood := { row := pilesProfileUptoRow, standIns := [], harness := (true, "b36a41db904ee317a95ac6bd111d360462c7b9af8e99c3fcb5e5b15ba8a85503"), looks := true }, kinds := [], alts := [], laidByText := true, laidKinds := [.data, .data, .data, .data, .sentinel, .sentinel, .widerDeep, .pinned], laidTests := true, laidLooks := .later }
def PilesProfileUptoCardSaid : Prop := Claim7.holds Tryz.pinned (.plain (OpenSpec.upto pilesProfileSpec)) pilesProfileUptoCard

/-- THE SECOND FORM's CARD OF 'crimplaw17.PilesCheck'. -/
def pilesCheckUptoCard : Claim7 := { stood := { row := pilesCheckUptoRow, standIns := [], harness := (true, "b36a41db904ee317a95ac6bd111d360462c7b9af8e99c3fcb5e5b15ba8a85503"), looks := true }, kinds := [], alts := [], laidByText := true, laidKinds := [.data, .data, .data, .data, .sentinel, .sentinel, .widerDeep, .pinned], laidTests := true, laidLooks := .later }
def PilesCheckUptoCardSaid : Prop := Claim7.holds Tryz.pinned (.plain (OpenSpec.upto pilesCheckSpec)) pilesCheckUptoCard

/-- THE SECOND FORM's CARD OF 'crimplaw17.PilesKinds'. -/
def pilesKindsUptoCard : Claim7 := { stood := { row := pilesKindsUptoRow, standIns := [], harness := (true, "b36a41db904ee317a95ac6bd111d360462c7b9af8e99c3fcb5e5b15ba8a85503"), looks := true }, kinds := [], alts := [], laidByText := true, laidKinds := [.data, .data, .data, .data, .sentinel, .sentinel, .widerDeep, .pinned], laidTests := true, laidLooks := .later }
def PilesKindsUptoCardSaid : Prop := Claim7.holds Tryz.pinned (.plain (OpenSpec.upto pilesKindsSpec)) pilesKindsUptoCard

/-- THE SECOND FORM's CARD OF 'crimplaw17.PilesErrors'. -/
def pilesErrorsUptoCard : Claim7 := { stood := { row := pilesErrorsUptoRow, standIns := [], harness := (true, "b36a41db904ee317a95ac6bd111d360462c7b9af8e99c3fcb5e5b15ba8a85503"), looks := true }, kinds := [], alts := [], laidByText := true, laidKinds := [.data, .data, .data, .data, .sentinel, .sentinel, .widerDeep, .pinned], laidTests := true, laidLooks := .later }
def PilesErrorsUptoCardSaid : Prop := Claim7.holds Tryz.pinned (.plain (OpenSpec.upto pilesErrorsSpec)) pilesErrorsUptoCard

/-- THE SECOND FORM's CARD OF 'crimplaw17.PilesKnown'. -/
def pilesKnownUptoCard : Claim7 := { stood := { row := pilesKnownUptoRow, standIns := [], harness := (true, "b36a41db904ee317a95ac6bd111d360462c7b9af8e99c3fcb5e5b15ba8a85503"), looks := true }, kinds := [], alts := [], laidByText := true, laidKinds := [.data, .data, .data, .data, .sentinel, .sentinel, .widerDeep, .pinned], laidTests := true, laidLooks := .later }
def PilesKnownUptoCardSaid : Prop := Claim7.holds Tryz.pinned (.plain (OpenSpec.upto pilesKnownSpec)) pilesKnownUptoCard
end Rows
end Go.Proofs.YtdngfcfomcffmaaGreatDoor
