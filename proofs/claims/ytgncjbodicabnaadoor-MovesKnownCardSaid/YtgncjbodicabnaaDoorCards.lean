/-
  DERIVED. GIVEN WITH THE SEED: THE CARDS: each row of YtgncjbodicabnaaDoorRows.lean that lists a variable, with what it lists TIED to the program's text (the seventh form; the later family's looks); each row that meets fmt, with fmt's text TOLD by the authors' own Lean function (tested against real Go, not proved from fmt's source: count such statements apart). THE CARD IS WHAT COUNTS. Prove the row's statement (the work); the ties are given (YtgncjbodicabnaaDoorTie.lean); close each card by the builder's one call (the guide's Derived/Test/ToyasCard.lean, 'card_holds'). Laid BY PROGRAM, IN A SANDBOX (cutbox-door.mjs). By AI agents, Wed Nov 11 2026. No macro, syntax, notation, axiom, sorry.
-/
import Derived.Test.YtgncjbodicabnaaDoorRows
import GoSem.ClaimSeven
namespace Go.Proofs.YtgncjbodicabnaaDoor
namespace Rows

/-- THE TIED CARD OF 'crimplaw02.MovesInverse'. -/
def movesInverseCard : Claim7 := { stood := { row := movesInverseRow, standIns := [], harness := (true, "d1f91fb20eea30bc98ee80f2d005562a2b5b83002ef047800b74e1164262d03c"), looks := true }, kinds := [], alts := [], laidByText := true, laidKinds := [.data, .data, .data, .data, .sentinel, .sentinel, .wider, .pinned], laidTests := true, laidLooks := .later }
def MovesInverseCardSaid : Prop := Claim7.holds Tryd.pinned (.plain (OpenSpec.ofChange movesInverseSpec)) movesInverseCard

/-- THE TIED CARD OF 'crimplaw02.MovesPoint'. -/
def movesPointCard : Claim7 := { stood := { row := movesPointRow, standIns := [], harness := (true, "d1f91fb20eea30bc98ee80f2d005562a2b5b83002ef047800b74e1164262d03c"), looks := true }, kinds := [], alts := [], laidByText := true, laidKinds := [.data, .data, .data, .data, .sentinel, .sentinel, .wider, .pinned], laidTests := true, laidLooks := .later }
def MovesPointCardSaid : Prop := Claim7.holds Tryd.pinned (.plain (OpenSpec.ofChange movesPointSpec)) movesPointCard

/-- THE TIED CARD OF 'crimplaw02.MovesLine'. -/
def movesLineCard : Claim7 := { stood := { row := movesLineRow, standIns := [], harness := (true, "d1f91fb20eea30bc98ee80f2d005562a2b5b83002ef047800b74e1164262d03c"), looks := true }, kinds := [], alts := [], laidByText := true, laidKinds := [.data, .data, .data, .data, .sentinel, .sentinel, .wider, .pinned], laidTests := true, laidLooks := .later }
def MovesLineCardSaid : Prop := Claim7.holds Tryd.pinned (.plain (OpenSpec.ofChange movesLineSpec)) movesLineCard

/-- THE TIED CARD OF 'crimplaw02.MovesAssociate'. -/
def movesAssociateCard : Claim7 := { stood := { row := movesAssociateRow, standIns := [], harness := (true, "d1f91fb20eea30bc98ee80f2d005562a2b5b83002ef047800b74e1164262d03c"), looks := true }, kinds := [], alts := [], laidByText := true, laidKinds := [.data, .data, .data, .data, .sentinel, .sentinel, .wider, .pinned], laidTests := true, laidLooks := .later }
def MovesAssociateCardSaid : Prop := Claim7.holds Tryd.pinned (.plain (OpenSpec.ofChange movesAssociateSpec)) movesAssociateCard

/-- THE TIED CARD OF 'crimplaw02.MovesReach'. -/
def movesReachCard : Claim7 := { stood := { row := movesReachRow, standIns := [], harness := (true, "d1f91fb20eea30bc98ee80f2d005562a2b5b83002ef047800b74e1164262d03c"), looks := true }, kinds := [], alts := [], laidByText := true, laidKinds := [.data, .data, .data, .data, .sentinel, .sentinel, .wider, .pinned], laidTests := true, laidLooks := .later }
def MovesReachCardSaid : Prop := Claim7.holds Tryd.pinned (.plain (OpenSpec.ofChange movesReachSpec)) movesReachCard

/-- THE TIED CARD OF 'crimplaw02.MovesText'. -/
def movesTextCard : Claim7 := { stood := { row := movesTextRow, standIns := [], harness := (true, "d1f91fb20eea30bc98ee80f2d005562a2b5b83002ef047800b74e1164262d03c"), looks := true }, kinds := [], alts := [], laidByText := true, laidKinds := [.data, .data, .data, .data, .sentinel, .sentinel, .wider, .pinned], laidTests := true, laidLooks := .later }
def MovesTextCardSaid : Prop := Claim7.holds Tryd.pinned (.plain (OpenSpec.ofChange movesTextSpec)) movesTextCard

/-- THE TIED CARD OF 'crimplaw02.MovesOf'. -/
def movesOfCard : Claim7 := { stood := { row := movesOfRow, standIns := [], harness := (true, "d1f91fb20eea30bc98ee80f2d005562a2b5b83002ef047800b74e1164262d03c"), looks := true }, kinds := [], alts := [], laidByText := true, laidKinds := [.data, .data, .data, .data, .sentinel, .sentinel, .wider, .pinned], laidTests := true, laidLooks := .later }
def MovesOfCardSaid : Prop := Claim7.holds Tryd.pinned (.plain (OpenSpec.ofChange movesOfSpec)) movesOfCard

/-- THE TIED CARD OF 'crimplaw02.MovesThen'. -/
def movesThenCard : Claim7 := { stood := { row := movesThenRow, standIns := [], harness := (true, "d1f91fb20eea30bc98ee80f2d005562a2b5b83002ef047800b74e1164262d03c"), looks := true }, kinds := [], alts := [], laidByText := true, laidKinds := [.data, .data, .data, .data, .sentinel, .sentinel, .wider, .pinned], laidTests := true, laidLooks := .later }
def MovesThenCardSaid : Prop := Claim7.holds Tryd.pinned (.plain (OpenSpec.ofChange movesThenSpec)) movesThenCard

/-- THE TIED CARD OF 'crimplaw02.MovesKnown'. -/
def movesKnownCard : Claim7 := { stood := { row := movesKnownRow, standIns := [], harness := (true, "d1f91fb20eea30bc98ee80f2d005562a2b5b83002ef047800b74e1164262d03c"), looks := true }, kinds := [], alts := [], laidByText := true, laidKinds := [.data, .data, .data, .data, .sentinel, .sentinel, .wider, .pinned], laidTests := true, laidLooks := .later }
def MovesKnownCardSaid : Prop := Claim7.holds Tryd.pinned (.plain (OpenSpec.ofChange movesKnownSpec)) movesKnownCard

/-- THE SECOND FORM's CARD OF 'crimplaw02.MovesInverse'. -/
def movesInverseUptoCard : Claim7 := { stood := { row := movesInverseUptoRow, standIns := [], harness := (true, "d1f91fb20eea30bc98ee80f2d005562a2b5b83002ef047800b74e1164262d03c"), looks := true }, kinds := [], alts := [], laidByText := true, laidKinds := [.data, .data, .data, .data, .sentinel, .sentinel, .wider, .pinned], laidTests := true, laidLooks := .later }
def MovesInverseUptoCardSaid : Prop := Claim7.holds Tryd.pinned (.plain (OpenSpec.upto movesInverseSpec)) movesInverseUptoCard

/-- THE SECOND FORM's CARD OF 'crimplaw02.MovesPoint'. -/
def movesPointUptoCard : Claim7 := { stood := { row := movesPointUptoRow, standIns := [], harness := (true, "d1f91fb20eea30bc98ee80f2d005562a2b5b83002ef047800b74e1164262d03c"), looks := true }, kinds := [], alts := [], laidByText := true, laidKinds := [.data, .data, .data, .data, .sentinel, .sentinel, .wider, .pinned], laidTests := true, laidLooks := .later }
def MovesPointUptoCardSaid : Prop := Claim7.holds Tryd.pinned (.plain (OpenSpec.upto movesPointSpec)) movesPointUptoCard

/-- THE SECOND FORM's CARD OF 'crimplaw02.MovesLine'. -/
def movesLineUptoCard : Claim7 := { stood := { row := movesLineUptoRow, standIns := [], harness := (true, "d1f91fb20eea30bc98ee80f2d005562a2b5b83002ef047800b74e1164262d03c"), looks := true }, kinds := [], alts := [], laidByText := true, laidKinds := [.data, .data, .data, .data, .sentinel, .sentinel, .wider, .pinned], laidTests := true, laidLooks := .later }
def MovesLineUptoCardSaid : Prop := Claim7.holds Tryd.pinned (.plain (OpenSpec.upto movesLineSpec)) movesLineUptoCard

/-- THE SECOND FORM's CARD OF 'crimplaw02.MovesAssociate'. -/
def movesAssociateUptoCard : Claim7 := { stood := { row := movesAssociateUptoRow, standIns := [], harness := (true, "d1f91fb20eea30bc98ee80f2d005562a2b5b83002ef047800b74e1164262d03c"), looks := true }, kinds := [], alts := [], laidByText := true, laidKinds := [.data, .data, .data, .data, .sentinel, .sentinel, .wider, .pinned], laidTests := true, laidLooks := .later }
def MovesAssociateUptoCardSaid : Prop := Claim7.holds Tryd.pinned (.plain (OpenSpec.upto movesAssociateSpec)) movesAssociateUptoCard

/-- THE SECOND FORM's CARD OF 'crimplaw02.MovesReach'. -/
def movesReachUptoCard : Claim7 := { stood := { row := movesReachUptoRow, standIns := [], harness := (true, "d1f91fb20eea30bc98ee80f2d005562a2b5b83002ef047800b74e1164262d03c"), looks := true }, kinds := [], alts := [], laidByText := true, laidKinds := [.data, .data, .data, .data, .sentinel, .sentinel, .wider, .pinned], laidTests := true, laidLooks := .later }
def MovesReachUptoCardSaid : Prop := Claim7.holds Tryd.pinned (.plain (OpenSpec.upto movesReachSpec)) movesReachUptoCard

/-- THE SECOND FORM's CARD OF 'crimplaw02.MovesText'. -/
def movesTextUptoCard : Claim7 := { stood := { row := movesTextUptoRow, standIns := [], harness := (true, "d1f91fb20eea30bc98ee80f2d005562a2b5b83002ef047800b74e1164262d03c"), looks := true }, kinds := [], alts := [], laidByText := true, laidKinds := [.data, .data, .data, .data, .sentinel, .sentinel, .wider, .pinned], laidTests := true, laidLooks := .later }
def MovesTextUptoCardSaid : Prop := Claim7.holds Tryd.pinned (.plain (OpenSpec.upto movesTextSpec)) movesTextUptoCard

/-- THE SECOND FORM's CARD OF 'crimplaw02.MovesOf'. -/
def movesOfUptoCard : Claim7 := { stood := { row := movesOfUptoRow, standIns := [], harness := (true, "d1f91fb20eea30bc98ee80f2d005562a2b5b83002ef047800b74e1164262d03c"), looks := true }, kinds := [], alts := [], laidByText := true, laidKinds := [.data, .data, .data, .data, .sentinel, .sentinel, .wider, .pinned], laidTests := true, laidLooks := .later }
def MovesOfUptoCardSaid : Prop := Claim7.holds Tryd.pinned (.plain (OpenSpec.upto movesOfSpec)) movesOfUptoCard

/-- THE SECOND FORM's CARD OF 'crimplaw02.MovesThen'. -/
def movesThenUptoCard : Claim7 := { stood := { row := movesThenUptoRow, standIns := [], harness := (true, "d1f91fb20eea30bc98ee80f2d005562a2b5b83002ef047800b74e1164262d03c"), looks := true }, kinds := [], alts := [], laidByText := true, laidKinds := [.data, .data, .data, .data, .sentinel, .sentinel, .wider, .pinned], laidTests := true, laidLooks := .later }
def MovesThenUptoCardSaid : Prop := Claim7.holds Tryd.pinned (.plain (OpenSpec.upto movesThenSpec)) movesThenUptoCard

/-- THE SECOND FORM's CARD OF 'crimplaw02.MovesKnown'. -/
def movesKnownUptoCard : Claim7 := { stood := { row := movesKnownUptoRow, standIns := [], harness := (true, "d1f91fb20eea30bc98ee80f2d005562a2b5b83002ef047800b74e1164262d03c"), looks := true }, kinds := [], alts := [], laidByText := true, laidKinds := [.data, .data, .data, .data, .sentinel, .sentinel, .wider, .pinned], laidTests := true, laidLooks := .later }
def MovesKnownUptoCardSaid : Prop := Claim7.holds Tryd.pinned (.plain (OpenSpec.upto movesKnownSpec)) movesKnownUptoCard
end Rows
end Go.Proofs.YtgncjbodicabnaaDoor
