/-
  DERIVED. GIVEN WITH THE SEED: THE CARDS: each row of YtahplmacekfjgaaGreatDoorRows.lean that lists a variable, with what it lists TIED to the program's text (the seventh form; the later family's looks); each row that meets fmt, with fmt's text TOLD by the authors' own Lean function (tested against real Go, not proved from fmt's source: count such statements apart). THE CARD IS WHAT COUNTS. Prove the row's statement (the work); the ties are given (YtahplmacekfjgaaGreatDoorTie.lean); close each card by the builder's one call (the guide's Derived/Test/ToyasCard.lean, 'card_holds'). Laid BY PROGRAM, IN A SANDBOX (cutbox-door.mjs). By AI agents, Wed Nov 11 2026. No macro, syntax, notation, axiom, sorry.
-/
import Derived.Test.YtahplmacekfjgaaGreatDoorRows
import GoSem.ClaimSeven
namespace Go.Proofs.YtahplmacekfjgaaGreatDoor
namespace Rows

/-- THE TIED CARD OF 'crimplaw38.NetsCompare'. -/
def netsCompareCard : Claim7 := { stood := { row := netsCompareRow, standIns := [], harness := (true, "b2ccb93f7ee1f08e47e4f2ff3d58f102192d641d4937c78bd7d0bd36fee08b35"), looks := true }, kinds := [], alts := [], laidByText := true, laidKinds := [.data, .data, .data], laidTests := true, laidLooks := .later }
def NetsCompareCardSaid : Prop := Claim7.holds Tryz.pinned (.plain (OpenSpec.ofChange netsCompareSpec)) netsCompareCard

/-- THE TIED CARD OF 'crimplaw38.NetsErrors'. -/
def netsErrorsCard : Claim7 := { stood := { row := netsErrorsRow, standIns := [], harness := (true, "b2ccb93f7ee1f08e47e4f2ff3d58f102192d641d4937c78bd7d0bd36fee08b35"), looks := true }, kinds := [], alts := [], laidByText := true, laidKinds := [.data, .data, .data], laidTests := true, laidLooks := .later }
def NetsErrorsCardSaid : Prop := Claim7.holds Tryz.pinned (.plain (OpenSpec.ofChange netsErrorsSpec)) netsErrorsCard

/-- THE TIED CARD OF 'crimplaw38.NetsText'. -/
def netsTextCard : Claim7 := { stood := { row := netsTextRow, standIns := [], harness := (true, "b2ccb93f7ee1f08e47e4f2ff3d58f102192d641d4937c78bd7d0bd36fee08b35"), looks := true }, kinds := [], alts := [], laidByText := true, laidKinds := [.data, .data, .data, .data, .sentinel, .sentinel, .pinned], laidTests := true, laidLooks := .later }
def NetsTextCardSaid : Prop := Claim7.holds Tryz.pinned (.plain (OpenSpec.ofChange netsTextSpec)) netsTextCard

/-- THE SECOND FORM's CARD OF 'crimplaw38.NetsCompare'. -/
def netsCompareUptoCard : Claim7 := { stood := { row := netsCompareUptoRow, standIns := [], harness := (true, "b2ccb93f7ee1f08e47e4f2ff3d58f102192d641d4937c78bd7d0bd36fee08b35"), looks := true }, kinds := [], alts := [], laidByText := true, laidKinds := [.data, .data, .data], laidTests := true, laidLooks := .later }
def NetsCompareUptoCardSaid : Prop := Claim7.holds Tryz.pinned (.plain (OpenSpec.upto netsCompareSpec)) netsCompareUptoCard

/-- THE SECOND FORM's CARD OF 'crimplaw38.NetsErrors'. -/
def netsErrorsUptoCard : Claim7 := { stood := { row := netsErrorsUptoRow, standIns := [], harness := (true, "b2ccb93f7ee1f08e47e4f2ff3d58f102192d641d4937c78bd7d0bd36fee08b35"), looks := true }, kinds := [], alts := [], laidByText := true, laidKinds := [.data, .data, .data], laidTests := true, laidLooks := .later }
def NetsErrorsUptoCardSaid : Prop := Claim7.holds Tryz.pinned (.plain (OpenSpec.upto netsErrorsSpec)) netsErrorsUptoCard

/-- THE SECOND FORM's CARD OF 'crimplaw38.NetsText'. -/
def netsTextUptoCard : Claim7 := { stood := { row := netsTextUptoRow, standIns := [], harness := (true, "b2ccb93f7ee1f08e47e4f2ff3d58f102192d641d4937c78bd7d0bd36fee08b35"), looks := true }, kinds := [], alts := [], laidByText := true, laidKinds := [.data, .data, .data, .data, .sentinel, .sentinel, .pinned], laidTests := true, laidLooks := .later }
def NetsTextUptoCardSaid : Prop := Claim7.holds Tryz.pinned (.plain (OpenSpec.upto netsTextSpec)) netsTextUptoCard
end Rows
end Go.Proofs.YtahplmacekfjgaaGreatDoor
