/-
  DERIVED. GIVEN WITH THE SEED: THE CARDS: each row of YtldgdgacdcenkaaDoorRows.lean that lists a variable, with what it lists TIED to the program's text (the seventh form; the later family's looks); each row that meets fmt, with fmt's text TOLD by the authors' own Lean function (tested against real Go, not proved from fmt's source: count such statements apart). THE CARD IS WHAT COUNTS. Prove the row's statement (the work); the ties are given (YtldgdgacdcenkaaDoorTie.lean); close each card by the builder's one call (the guide's Derived/Test/ToyasCard.lean, 'card_holds'). Laid BY PROGRAM, IN A SANDBOX (cutbox-door.mjs). By AI agents, Wed Nov 11 2026. No macro, syntax, notation, axiom, sorry.
-/
import Derived.Test.YtldgdgacdcenkaaDoorRows
import GoSem.ClaimSeven
namespace Go.Proofs.YtldgdgacdcenkaaDoor
namespace Rows

/-- THE TIED CARD OF 'crimplaw18.EndsAny'. -/
def endsAnyCard : Claim7 := { stood := { row := endsAnyRow, standIns := [], harness := (true, "17cd340965d08c429e5172bdd204475cdb7a1e458cf71ff2db68687bef0df2aa"), looks := true }, kinds := [], alts := [], laidByText := true, laidKinds := [.data, .data, .data, .data, .sentinel, .sentinel, .widerDeep, .funcs, .pinned], laidTests := true, laidLooks := .later }
def EndsAnyCardSaid : Prop := Claim7.holds Tryd.pinned (.plain (OpenSpec.ofChange endsAnySpec)) endsAnyCard

/-- THE TIED CARD OF 'crimplaw18.EndsBack'. -/
def endsBackCard : Claim7 := { stood := { row := endsBackRow, standIns := [], harness := (true, "17cd340965d08c429e5172bdd204475cdb7a1e458cf71ff2db68687bef0df2aa"), looks := true }, kinds := [], alts := [], laidByText := true, laidKinds := [.data, .data, .data, .data, .sentinel, .sentinel, .widerDeep, .funcs, .pinned], laidTests := true, laidLooks := .later }
def EndsBackCardSaid : Prop := Claim7.holds Tryd.pinned (.plain (OpenSpec.ofChange endsBackSpec)) endsBackCard

/-- THE SECOND FORM's CARD OF 'crimplaw18.EndsAny'. -/
def endsAnyUptoCard : Claim7 := { stood := { row := endsAnyUptoRow, standIns := [], harness := (true, "17cd340965d08c429e5172bdd204475cdb7a1e458cf71ff2db68687bef0df2aa"), looks := true }, kinds := [], alts := [], laidByText := true, laidKinds := [.data, .data, .data, .data, .sentinel, .sentinel, .widerDeep, .funcs, .pinned], laidTests := true, laidLooks := .later }
def EndsAnyUptoCardSaid : Prop := Claim7.holds Tryd.pinned (.plain (OpenSpec.upto endsAnySpec)) endsAnyUptoCard

/-- THE SECOND FORM's CARD OF 'crimplaw18.EndsBack'. -/
def endsBackUptoCard : Claim7 := { stood := { row := endsBackUptoRow, standIns := [], harness := (true, "17cd340965d08c429e5172bdd204475cdb7a1e458cf71ff2db68687bef0df2aa"), looks := true }, kinds := [], alts := [], laidByText := true, laidKinds := [.data, .data, .data, .data, .sentinel, .sentinel, .widerDeep, .funcs, .pinned], laidTests := true, laidLooks := .later }
def EndsBackUptoCardSaid : Prop := Claim7.holds Tryd.pinned (.plain (OpenSpec.upto endsBackSpec)) endsBackUptoCard
end Rows
end Go.Proofs.YtldgdgacdcenkaaDoor
