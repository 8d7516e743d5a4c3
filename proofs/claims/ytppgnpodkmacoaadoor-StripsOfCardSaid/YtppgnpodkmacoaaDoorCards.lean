/-
  DERIVED. GIVEN WITH THE SEED: THE CARDS: each row of YtppgnpodkmacoaaDoorRows.lean that lists a variable, with what it lists TIED to the program's text (the seventh form; the later family's looks); each row that meets fmt, with fmt's text TOLD by the authors' own Lean function (tested against real Go, not proved from fmt's source: count such statements apart). THE CARD IS WHAT COUNTS. Prove the row's statement (the work); the ties are given (YtppgnpodkmacoaaDoorTie.lean); close each card by the builder's one call (the guide's Derived/Test/ToyasCard.lean, 'card_holds'). Laid BY PROGRAM, IN A SANDBOX (cutbox-door.mjs). By AI agents, Wed Nov 11 2026. No macro, syntax, notation, axiom, sorry.
-/
import Derived.Test.YtppgnpodkmacoaaDoorRows
import GoSem.ClaimSeven
namespace Go.Proofs.YtppgnpodkmacoaaDoor
namespace Rows

/-- THE TIED CARD OF 'crimplaw16.StripsText'. -/
def stripsTextCard : Claim7 := { stood := { row := stripsTextRow, standIns := [], harness := (true, "310d1e3516bfc910be341d60bc40de94e18cc43d3c2ef40bc8e8639d8be29f2c"), looks := true }, kinds := [], alts := [], laidByText := true, laidKinds := [.data, .data, .data, .data, .sentinel, .sentinel, .widerDeep, .pinned], laidTests := true, laidLooks := .later }
def StripsTextCardSaid : Prop := Claim7.holds Tryd.pinned (.plain (OpenSpec.ofChange stripsTextSpec)) stripsTextCard

/-- THE TIED CARD OF 'crimplaw16.StripsEnds'. -/
def stripsEndsCard : Claim7 := { stood := { row := stripsEndsRow, standIns := [], harness := (true, "310d1e3516bfc910be341d60bc40de94e18cc43d3c2ef40bc8e8639d8be29f2c"), looks := true }, kinds := [], alts := [], laidByText := true, laidKinds := [.data, .data, .data, .data, .sentinel, .sentinel, .widerDeep, .pinned], laidTests := true, laidLooks := .later }
def StripsEndsCardSaid : Prop := Claim7.holds Tryd.pinned (.plain (OpenSpec.ofChange stripsEndsSpec)) stripsEndsCard

/-- THE TIED CARD OF 'crimplaw16.StripsErrors'. -/
def stripsErrorsCard : Claim7 := { stood := { row := stripsErrorsRow, standIns := [], harness := (true, "310d1e3516bfc910be341d60bc40de94e18cc43d3c2ef40bc8e8639d8be29f2c"), looks := true }, kinds := [], alts := [], laidByText := true, laidKinds := [.data, .data, .data, .data, .sentinel, .sentinel, .widerDeep, .pinned], laidTests := true, laidLooks := .later }
def StripsErrorsCardSaid : Prop := Claim7.holds Tryd.pinned (.plain (OpenSpec.ofChange stripsErrorsSpec)) stripsErrorsCard

/-- THE TIED CARD OF 'crimplaw16.StripsPattern'. -/
def stripsPatternCard : Claim7 := { stood := { row := stripsPatternRow, standIns := [], harness := (true, "310d1e3516bfc910be341d60bc40de94e18cc43d3c2ef40bc8e8639d8be29f2c"), looks := true }, kinds := [], alts := [], laidByText := true, laidKinds := [.data, .data, .data, .data, .sentinel, .sentinel, .data, .widerDeep, .pinned], laidTests := true, laidLooks := .later }
def StripsPatternCardSaid : Prop := Claim7.holds Tryd.pinned (.plain (OpenSpec.ofChange stripsPatternSpec)) stripsPatternCard

/-- THE TIED CARD OF 'crimplaw16.StripsOf'. -/
def stripsOfCard : Claim7 := { stood := { row := stripsOfRow, standIns := [], harness := (true, "310d1e3516bfc910be341d60bc40de94e18cc43d3c2ef40bc8e8639d8be29f2c"), looks := true }, kinds := [], alts := [], laidByText := true, laidKinds := [.data, .data, .data, .data, .sentinel, .sentinel, .data, .widerDeep, .pinned], laidTests := true, laidLooks := .later }
def StripsOfCardSaid : Prop := Claim7.holds Tryd.pinned (.plain (OpenSpec.ofChange stripsOfSpec)) stripsOfCard

/-- THE SECOND FORM's CARD OF 'crimplaw16.StripsText'. -/
def stripsTextUptoCard : Claim7 := { stood := { row := stripsTextUptoRow, standIns := [], harness := (true, "310d1e3516bfc910be341d60bc40de94e18cc43d3c2ef40bc8e8639d8be29f2c"), looks := true }, kinds := [], alts := [], laidByText := true, laidKinds := [.data, .data, .data, .data, .sentinel, .sentinel, .widerDeep, .pinned], laidTests := true, laidLooks := .later }
def StripsTextUptoCardSaid : Prop := Claim7.holds Tryd.pinned (.plain (OpenSpec.upto stripsTextSpec)) stripsTextUptoCard

/-- THE SECOND FORM's CARD OF 'crimplaw16.StripsEnds'. -/
def stripsEndsUptoCard : Claim7 := { stood := { row := stripsEndsUptoRow, standIns := [], harness := (true, "310d1e3516bfc910be341d60bc40de94e18cc43d3c2ef40bc8e8639d8be29f2c"), looks := true }, kinds := [], alts := [], laidByText := true, laidKinds := [.data, .data, .data, .data, .sentinel, .sentinel, .widerDeep, .pinned], laidTests := true, laidLooks := .later }
def StripsEndsUptoCardSaid : Prop := Claim7.holds Tryd.pinned (.plain (OpenSpec.upto stripsEndsSpec)) stripsEndsUptoCard

/-- THE SECOND FORM's CARD OF 'crimplaw16.StripsErrors'. -/
def stripsErrorsUptoCard : Claim7 := { stood := { row := stripsErrorsUptoRow, standIns := [], harness := (true, "310d1e3516bfc910be341d60bc40de94e18cc43d3c2ef40bc8e8639d8be29f2c"), looks := true }, kinds := [], alts := [], laidByText := true, laidKinds := [.data, .data, .data, .data, .sentinel, .sentinel, .widerDeep, .pinned], laidTests := true, laidLooks := .later }
def StripsErrorsUptoCardSaid : Prop := Claim7.holds Tryd.pinned (.plain (OpenSpec.upto stripsErrorsSpec)) stripsErrorsUptoCard

/-- THE SECOND FORM's CARD OF 'crimplaw16.StripsPattern'. -/
def stripsPatternUptoCard : Claim7 := { stood := { row := stripsPatternUptoRow, standIns := [], harness := (true, "310d1e3516bfc910be341d60bc40de94e18cc43d3c2ef40bc8e8639d8be29f2c"), looks := true }, kinds := [], alts := [], laidByText := true, laidKinds := [.data, .data, .data, .data, .sentinel, .sentinel, .data, .widerDeep, .pinned], laidTests := true, laidLooks := .later }
def StripsPatternUptoCardSaid : Prop := Claim7.holds Tryd.pinned (.plain (OpenSpec.upto stripsPatternSpec)) stripsPatternUptoCard

/-- THE SECOND FORM's CARD OF 'crimplaw16.StripsOf'. -/
def stripsOfUptoCard : Claim7 := { stood := { row := stripsOfUptoRow, standIns := [], harness := (true, "310d1e3516bfc910be341d60bc40de94e18cc43d3c2ef40bc8e8639d8be29f2c"), looks := true }, kinds := [], alts := [], laidByText := true, laidKinds := [.data, .data, .data, .data, .sentinel, .sentinel, .data, .widerDeep, .pinned], laidTests := true, laidLooks := .later }
def StripsOfUptoCardSaid : Prop := Claim7.holds Tryd.pinned (.plain (OpenSpec.upto stripsOfSpec)) stripsOfUptoCard
end Rows
end Go.Proofs.YtppgnpodkmacoaaDoor
