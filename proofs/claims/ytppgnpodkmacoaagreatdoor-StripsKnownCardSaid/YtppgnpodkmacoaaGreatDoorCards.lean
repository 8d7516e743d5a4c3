/-
  DERIVED. GIVEN WITH THE SEED: THE CARDS: each row of YtppgnpodkmacoaaGreatDoorRows.lean that lists a variable, with what it lists TIED to the program's text (the seventh form; the later family's looks); each row that meets fmt, with fmt's text TOLD by the authors' own Lean function (tested against real Go, not proved from fmt's source: count such statements apart). THE CARD IS WHAT COUNTS. Prove the row's statement (the work); the ties are given (YtppgnpodkmacoaaGreatDoorTie.lean); close each card by the builder's one call (the guide's Derived/Test/ToyasCard.lean, 'card_holds'). Laid BY PROGRAM, IN A SANDBOX (cutbox-door.mjs). By AI agents, Wed Nov 11 2026. No macro, syntax, notation, axiom, sorry.
-/
import Derived.Test.YtppgnpodkmacoaaGreatDoorRows
import GoSem.ClaimSeven
namespace Go.Proofs.YtppgnpodkmacoaaGreatDoor
namespace Rows

/-- THE TIED CARD OF 'crimplaw16.StripsKnown'. -/
def stripsKnownCard : Claim7 := { stood := { row := stripsKnownRow, standIns := [], harness := (true, "881ee0f64a3302bd1e230abf02e802b3a652ad9028dc6c467fdf790f710eb533"), looks := true }, kinds := [], alts := [], laidByText := true, laidKinds := [.data, .data, .data, .data, .sentinel, .sentinel, .data, .widerDeep, .pinned], laidTests := true, laidLooks := .later }
def StripsKnownCardSaid : Prop := Claim7.holds Tryz.pinned (.plain (OpenSpec.ofChange stripsKnownSpec)) stripsKnownCard

/-- THE SECOND FORM's CARD OF 'crimplaw16.StripsKnown'. -/
def stripsKnownUptoCard : Claim7 := { stood := { row := stripsKnownUptoRow, standIns := [], harness := (true, "881ee0f64a3302bd1e230abf02e802b3a652ad9028dc6c467fdf790f710eb533"), looks := true }, kinds := [], alts := [], laidByText := true, laidKinds := [.data, .data, .data, .data, .sentinel, .sentinel, .data, .widerDeep, .pinned], laidTests := true, laidLooks := .later }
def StripsKnownUptoCardSaid : Prop := Claim7.holds Tryz.pinned (.plain (OpenSpec.upto stripsKnownSpec)) stripsKnownUptoCard
end Rows
end Go.Proofs.YtppgnpodkmacoaaGreatDoor
