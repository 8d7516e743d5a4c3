/-
  DERIVED. GIVEN WITH THE SEED: THE CARDS: each row of YtldgdgacdcenkaaGreatDoorRows.lean that lists a variable, with what it lists TIED to the program's text (the seventh form; the later family's looks); each row that meets fmt, with fmt's text TOLD by the authors' own Lean function (tested against real Go, not proved from fmt's source: count such statements apart). THE CARD IS WHAT COUNTS. Prove the row's statement (the work); the ties are given (YtldgdgacdcenkaaGreatDoorTie.lean); close each card by the builder's one call (the guide's Derived/Test/ToyasCard.lean, 'card_holds'). Laid BY PROGRAM, IN A SANDBOX (cutbox-door.mjs). By AI agents, Wed Nov 11 2026. No macro, syntax, notation, axiom, sorry.
-/
import Derived.Test.YtldgdgacdcenkaaGreatDoorRows
import GoSem.ClaimSeven
namespace Go.Proofs.YtldgdgacdcenkaaGreatDoor
namespace Rows

/-- THE TIED CARD OF 'crimplaw18.EndsFold'. -/
def endsFoldCard : Claim7 := { stood := { row := endsFoldRow, standIns := [], harness := (true, "4aa0813aae93de2d68588b18db7e319da7df57e9cda0f4c3ddb3df7c8b01dbd8"), looks := true }, kinds := [], alts := [], laidByText := true, laidKinds := [.data, .data, .data, .data, .sentinel, .sentinel, .widerDeep, .funcs, .pinned], laidTests := true, laidLooks := .later }
def EndsFoldCardSaid : Prop := Claim7.holds Tryz.pinned (.plain (OpenSpec.ofChange endsFoldSpec)) endsFoldCard

/-- THE TIED CARD OF 'crimplaw18.EndsSteps'. -/
def endsStepsCard : Claim7 := { stood := { row := endsStepsRow, standIns := [], harness := (true, "4aa0813aae93de2d68588b18db7e319da7df57e9cda0f4c3ddb3df7c8b01dbd8"), looks := true }, kinds := [], alts := [], laidByText := true, laidKinds := [.data, .data, .data, .data, .sentinel, .sentinel, .widerDeep, .funcs, .pinned], laidTests := true, laidLooks := .later }
def EndsStepsCardSaid : Prop := Claim7.holds Tryz.pinned (.plain (OpenSpec.ofChange endsStepsSpec)) endsStepsCard

/-- THE TIED CARD OF 'crimplaw18.EndsFolds'. -/
def endsFoldsCard : Claim7 := { stood := { row := endsFoldsRow, standIns := [], harness := (true, "4aa0813aae93de2d68588b18db7e319da7df57e9cda0f4c3ddb3df7c8b01dbd8"), looks := true }, kinds := [], alts := [], laidByText := true, laidKinds := [.data, .data, .data, .data, .sentinel, .sentinel, .widerDeep, .funcs, .pinned], laidTests := true, laidLooks := .later }
def EndsFoldsCardSaid : Prop := Claim7.holds Tryz.pinned (.plain (OpenSpec.ofChange endsFoldsSpec)) endsFoldsCard

/-- THE TIED CARD OF 'crimplaw18.EndsPile'. -/
def endsPileCard : Claim7 := { stood := { row := endsPileRow, standIns := [], harness := (true, "4aa0813aae93de2d68588b18db7e319da7df57e9cda0f4c3ddb3df7c8b01dbd8"), looks := true }, kinds := [], alts := [], laidByText := true, laidKinds := [.data, .data, .data, .data, .sentinel, .sentinel, .widerDeep, .funcs, .pinned], laidTests := true, laidLooks := .later }
def EndsPileCardSaid : Prop := Claim7.holds Tryz.pinned (.plain (OpenSpec.ofChange endsPileSpec)) endsPileCard

/-- THE TIED CARD OF 'crimplaw18.EndsKnown'. -/
def endsKnownCard : Claim7 := { stood := { row := endsKnownRow, standIns := [], harness := (true, "4aa0813aae93de2d68588b18db7e319da7df57e9cda0f4c3ddb3df7c8b01dbd8"), looks := true }, kinds := [], alts := [], laidByText := true, laidKinds := [.data, .data, .data, .data, .sentinel, .sentinel, .widerDeep, .funcs, .pinned], laidTests := true, laidLooks := .later }
def EndsKnownCardSaid : Prop := Claim7.holds Tryz.pinned (.plain (OpenSpec.ofChange endsKnownSpec)) endsKnownCard

/-- THE SECOND FORM's CARD OF 'crimplaw18.EndsFold'. -/
def endsFoldUptoCard : Claim7 := { stood := { row := endsFoldUptoRow, standIns := [], harness := (true, "4aa0813aae93de2d68588b18db7e319da7df57e9cda0f4c3ddb3df7c8b01dbd8"), looks := true }, kinds := [], alts := [], laidByText := true, laidKinds := [.data, .data, .data, .data, .sentinel, .sentinel, .widerDeep, .funcs, .pinned], laidTests := true, laidLooks := .later }
def EndsFoldUptoCardSaid : Prop := Claim7.holds Tryz.pinned (.plain (OpenSpec.upto endsFoldSpec)) endsFoldUptoCard

/-- THE SECOND FORM's CARD OF 'crimplaw18.EndsSteps'. -/
def endsStepsUptoCard : Claim7 := { stood := { row := endsStepsUptoRow, standIns := [], harness := (true, "4aa0813aae93de2d68588b18db7e319da7df57e9cda0f4c3ddb3df7c8b01dbd8"), looks := true }, kinds := [], alts := [], laidByText := true, laidKinds := [.data, .data, .data, .data, .sentinel, .sentinel, .widerDeep, .funcs, .pinned], laidTests := true, laidLooks := .later }
def EndsStepsUptoCardSaid : Prop := Claim7.holds Tryz.pinned (.plain (OpenSpec.upto endsStepsSpec)) endsStepsUptoCard

/-- THE SECOND FORM's CARD OF 'crimplaw18.EndsFolds'. -/
def endsFoldsUptoCard : Claim7 := { stood := { row := endsFoldsUptoRow, standIns := [], harness := (true, "4aa0813aae93de2d68588b18db7e319da7df57e9cda0f4c3ddb3df7c8b01dbd8"), looks := true }, kinds := [], alts := [], laidByText := true, laidKinds := [.data, .data, .data, .data, .sentinel, .sentinel, .widerDeep, .funcs, .pinned], laidTests := true, laidLooks := .later }
def EndsFoldsUptoCardSaid : Prop := Claim7.holds Tryz.pinned (.plain (OpenSpec.upto endsFoldsSpec)) endsFoldsUptoCard

/-- THE SECOND FORM's CARD OF 'crimplaw18.EndsPile'. -/
def endsPileUptoCard : Claim7 := { stood := { row := endsPileUptoRow, standIns := [], harness := (true, "4aa0813aae93de2d68588b18db7e319da7df57e9cda0f4c3ddb3df7c8b01dbd8"), looks := true }, kinds := [], alts := [], laidByText := true, laidKinds := [.data, .data, .data, .data, .sentinel, .sentinel, .widerDeep, .funcs, .pinned], laidTests := true, laidLooks := .later }
def EndsPileUptoCardSaid : Prop := Claim7.holds Tryz.pinned (.plain (OpenSpec.upto endsPileSpec)) endsPileUptoCard

/-- THE SECOND FORM's CARD OF 'crimplaw18.EndsKnown'. -/
def endsKnownUptoCard : Claim7 := { stood := { row := endsKnownUptoRow, standIns := [], harness := (true, "4aa0813aae93de2d68588b18db7e319da7df57e9cda0f4c3ddb3df7c8b01dbd8"), looks := true }, kinds := [], alts := [], laidByText := true, laidKinds := [.data, .data, .data, .data, .sentinel, .sentinel, .widerDeep, .funcs, .pinned], laidTests := true, laidLooks := .later }
def EndsKnownUptoCardSaid : Prop := Claim7.holds Tryz.pinned (.plain (OpenSpec.upto endsKnownSpec)) endsKnownUptoCard
end Rows
end Go.Proofs.YtldgdgacdcenkaaGreatDoor
