/-
  DERIVED. GIVEN WITH THE SEED: THE CARDS: each row of YtofimkliemlojaaGreatDoorRows.lean that lists a variable, with what it lists TIED to the program's text (the seventh form; the later family's looks); each row that meets fmt, with fmt's text TOLD by the authors' own Lean function (tested against real Go, not proved from fmt's source: count such statements apart). THE CARD IS WHAT COUNTS. Prove the row's statement (the work); the ties are given (YtofimkliemlojaaGreatDoorTie.lean); close each card by the builder's one call (the guide's Derived/Test/ToyasCard.lean, 'card_holds'). Laid BY PROGRAM, IN A SANDBOX (cutbox-door.mjs). By AI agents, Wed Nov 11 2026. No macro, syntax, notation, axiom, sorry.
-/
import Derived.Test.YtofimkliemlojaaGreatDoorRows
import GoSem.ClaimSeven
namespace Go.Proofs.YtofimkliemlojaaGreatDoor
namespace Rows

/-- THE TIED CARD OF 'crimplaw22.RingsKnown'. -/
def ringsKnownCard : Claim7 := { stood := { row := ringsKnownRow, standIns := [], harness := (true, "48297fc907a08e22d58449b2082308e358c18b550e71fe54dfa4b9697f4cf640"), looks := false }, kinds := [], alts := [], laidByText := true, laidKinds := [.data, .data, .data, .widerDeep], laidTests := true, laidLooks := .later }
def RingsKnownCardSaid : Prop := Claim7.holds Tryz.pinned (.plain (OpenSpec.ofChange ringsKnownSpec)) ringsKnownCard

/-- THE SECOND FORM's CARD OF 'crimplaw22.RingsKnown'. -/
def ringsKnownUptoCard : Claim7 := { stood := { row := ringsKnownUptoRow, standIns := [], harness := (true, "48297fc907a08e22d58449b2082308e358c18b550e71fe54dfa4b9697f4cf640"), looks := false }, kinds := [], alts := [], laidByText := true, laidKinds := [.data, .data, .data, .widerDeep], laidTests := true, laidLooks := .later }
def RingsKnownUptoCardSaid : Prop := Claim7.holds Tryz.pinned (.plain (OpenSpec.upto ringsKnownSpec)) ringsKnownUptoCard
end Rows
end Go.Proofs.YtofimkliemlojaaGreatDoor
