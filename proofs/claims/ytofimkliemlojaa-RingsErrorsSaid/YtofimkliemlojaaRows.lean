/-
  No cell of these rows narrows 'for every input' (looked for: loops, veiled, ifaces, maps, wideKeys, modest, calm, conditions, laid).
  DERIVED. THE GIVEN ROWS OF THIS SEAT. 6 by the template 'for every input the law returns true; each argument reads behind the call as it read before'; 0 by the template 'total and deterministic' (their statements: YtofimkliemlojaaTotals.lean).
  GIVEN WITH THE SEED: the statements are not yours to turn. If you find one false, say at which input.
  Laid BY PROGRAM, IN A SANDBOX (cutbox-rows.mjs): the forced cells as the released guide's own fill.sh prints them over the translation 3b65b36026c3028d… (all of the seat's roots in one cut). By AI agents, Wed Nov 11 2026. No macro, syntax, notation, axiom, sorry.
-/
import Derived.Test.YtofimkliemlojaaChecked
import GoSem.Claim
import GoSem.ClaimJoined
import GoSem.ClaimMapViews
import Derived.JoinedTies
import Derived.KernelRfl
namespace Go.Proofs.Ytofimkliemlojaa
/- THE CELL 'sum', in the pinned program and in every row, IS THE sha256 OF THE DUMP (.gsa) THAT YtofimkliemlojaaProg.lean LOADS. Nothing in Lean hashes anything: it is a label: what it is worth is what the hold of that sum in a sandbox is worth. -/
noncomputable def Try.pinned : Pinned := { name := "ytofimkliemlojaa", sum := "3b65b36026c3028d3ade341bddfe182e7b69d4fe862b96dc3de82f0e5f2ba5e2", checked := Try.checked }
namespace Rows
def none {H : Type} : Left H := { results := [], args := [] }

/-- 'crimplaw22.RingsValid': WHATEVER THE INPUT: true; the input reads as it did. -/
def ringsValidSpec : ChangeSpec := { name := "ringsValid", fn := fun _ => fun
  | [d1, d2] => { results := [.lit (.bool true)], args := [d1, d2] }
  | _ => none }
def ringsValidRow : OpenClaim := { program := "ytofimkliemlojaa", sum := "3b65b36026c3028d3ade341bddfe182e7b69d4fe862b96dc3de82f0e5f2ba5e2", func := "crimp/crimplaw22.RingsValid", spec := "ringsValid", inPlace := ["slices.overlaps[int]"], unfollowed := true, recurses := true, plainKeys := false, apart := false }
def RingsValidSaid : Prop := ringsValidRow.holds Try.pinned (OpenSpec.ofChange ringsValidSpec)

/-- ITS FALSE NEIGHBOUR: 'it returns false'. Refute it at one input. -/
def ringsValidWrong : ChangeSpec := { name := "ringsValid", fn := fun _ => fun
  | [d1, d2] => { results := [.lit (.bool false)], args := [d1, d2] }
  | _ => none }
def RingsValidWrongFalsely : Prop := ringsValidRow.holds Try.pinned (OpenSpec.ofChange ringsValidWrong)

/-- 'crimplaw22.RingsCount': WHATEVER THE INPUT: true; the input reads as it did. -/
def ringsCountSpec : ChangeSpec := { name := "ringsCount", fn := fun _ => fun
  | [d] => { results := [.lit (.bool true)], args := [d] }
  | _ => none }
def ringsCountRow : OpenClaim := { program := "ytofimkliemlojaa", sum := "3b65b36026c3028d3ade341bddfe182e7b69d4fe862b96dc3de82f0e5f2ba5e2", func := "crimp/crimplaw22.RingsCount", spec := "ringsCount", inPlace := ["slices.overlaps[int]"], unfollowed := true, recurses := true, plainKeys := false, apart := false }
def RingsCountSaid : Prop := ringsCountRow.holds Try.pinned (OpenSpec.ofChange ringsCountSpec)

/-- ITS FALSE NEIGHBOUR: 'it returns false'. Refute it at one input. -/
def ringsCountWrong : ChangeSpec := { name := "ringsCount", fn := fun _ => fun
  | [d] => { results := [.lit (.bool false)], args := [d] }
  | _ => none }
def RingsCountWrongFalsely : Prop := ringsCountRow.holds Try.pinned (OpenSpec.ofChange ringsCountWrong)

/-- 'crimplaw22.RingsLeast': WHATEVER THE INPUT: true; the input reads as it did. -/
def ringsLeastSpec : ChangeSpec := { name := "ringsLeast", fn := fun _ => fun
  | [d1, d2] => { results := [.lit (.bool true)], args := [d1, d2] }
  | _ => none }
def ringsLeastRow : OpenClaim := { program := "ytofimkliemlojaa", sum := "3b65b36026c3028d3ade341bddfe182e7b69d4fe862b96dc3de82f0e5f2ba5e2", func := "crimp/crimplaw22.RingsLeast", spec := "ringsLeast", inPlace := ["slices.overlaps[int]"], unfollowed := true, recurses := true, plainKeys := false, apart := false }
def RingsLeastSaid : Prop := ringsLeastRow.holds Try.pinned (OpenSpec.ofChange ringsLeastSpec)

/-- ITS FALSE NEIGHBOUR: 'it returns false'. Refute it at one input. -/
def ringsLeastWrong : ChangeSpec := { name := "ringsLeast", fn := fun _ => fun
  | [d1, d2] => { results := [.lit (.bool false)], args := [d1, d2] }
  | _ => none }
def RingsLeastWrongFalsely : Prop := ringsLeastRow.holds Try.pinned (OpenSpec.ofChange ringsLeastWrong)

/-- 'crimplaw22.RingsTurn': WHATEVER THE INPUT: true; the input reads as it did. -/
def ringsTurnSpec : ChangeSpec := { name := "ringsTurn", fn := fun _ => fun
  | [d1, d2] => { results := [.lit (.bool true)], args := [d1, d2] }
  | _ => none }
def ringsTurnRow : OpenClaim := { program := "ytofimkliemlojaa", sum := "3b65b36026c3028d3ade341bddfe182e7b69d4fe862b96dc3de82f0e5f2ba5e2", func := "crimp/crimplaw22.RingsTurn", spec := "ringsTurn", inPlace := ["slices.overlaps[int]"], unfollowed := true, recurses := true, plainKeys := false, apart := false }
def RingsTurnSaid : Prop := ringsTurnRow.holds Try.pinned (OpenSpec.ofChange ringsTurnSpec)

/-- ITS FALSE NEIGHBOUR: 'it returns false'. Refute it at one input. -/
def ringsTurnWrong : ChangeSpec := { name := "ringsTurn", fn := fun _ => fun
  | [d1, d2] => { results := [.lit (.bool false)], args := [d1, d2] }
  | _ => none }
def RingsTurnWrongFalsely : Prop := ringsTurnRow.holds Try.pinned (OpenSpec.ofChange ringsTurnWrong)

/-- 'crimplaw22.RingsErrors': WHATEVER THE INPUT: true; the input reads as it did. -/
def ringsErrorsSpec : ChangeSpec := { name := "ringsErrors", fn := fun _ => fun
  | [d1, d2, d3] => { results := [.lit (.bool true)], args := [d1, d2, d3] }
  | _ => none }
def ringsErrorsRow : OpenClaim := { program := "ytofimkliemlojaa", sum := "3b65b36026c3028d3ade341bddfe182e7b69d4fe862b96dc3de82f0e5f2ba5e2", func := "crimp/crimplaw22.RingsErrors", spec := "ringsErrors", inPlace := ["slices.overlaps[int]"], unfollowed := true, recurses := true, plainKeys := false, apart := false }
def RingsErrorsSaid : Prop := ringsErrorsRow.holds Try.pinned (OpenSpec.ofChange ringsErrorsSpec)

/-- ITS FALSE NEIGHBOUR: 'it returns false'. Refute it at one input. -/
def ringsErrorsWrong : ChangeSpec := { name := "ringsErrors", fn := fun _ => fun
  | [d1, d2, d3] => { results := [.lit (.bool false)], args := [d1, d2, d3] }
  | _ => none }
def RingsErrorsWrongFalsely : Prop := ringsErrorsRow.holds Try.pinned (OpenSpec.ofChange ringsErrorsWrong)

/-- 'crimplaw22.RingsDifference': WHATEVER THE INPUT: true; the input reads as it did. -/
def ringsDifferenceSpec : ChangeSpec := { name := "ringsDifference", fn := fun _ => fun
  | [d1, d2] => { results := [.lit (.bool true)], args := [d1, d2] }
  | _ => none }
def ringsDifferenceRow : OpenClaim := { program := "ytofimkliemlojaa", sum := "3b65b36026c3028d3ade341bddfe182e7b69d4fe862b96dc3de82f0e5f2ba5e2", func := "crimp/crimplaw22.RingsDifference", spec := "ringsDifference", inPlace := ["slices.overlaps[int]"], unfollowed := true, recurses := true, plainKeys := false, apart := false }
def RingsDifferenceSaid : Prop := ringsDifferenceRow.holds Try.pinned (OpenSpec.ofChange ringsDifferenceSpec)

/-- ITS FALSE NEIGHBOUR: 'it returns false'. Refute it at one input. -/
def ringsDifferenceWrong : ChangeSpec := { name := "ringsDifference", fn := fun _ => fun
  | [d1, d2] => { results := [.lit (.bool false)], args := [d1, d2] }
  | _ => none }
def RingsDifferenceWrongFalsely : Prop := ringsDifferenceRow.holds Try.pinned (OpenSpec.ofChange ringsDifferenceWrong)

/- THE SECOND FORM. 'bulk': how many values and letters a reading holds, each counted each time it is reached (what is shared counts as often as it is met; a slice's spare places count too). A statement '..UptoSaid' is the law's where the arguments, and the package variables that the reading takes, are together of bulk at most 1048576: NARROWER than '..Said'. Prove '..Said' where nothing that the law and all that it calls make is longer than what came in: it says more and counts as full. Else prove '..UptoSaid'. A law counts once. -/
mutual
def uptoBulk {H : Type} : DataW H → Nat
  | .lit (.string bytes) => bytes.length + 1
  | .lit _ => 1
  | .nil => 1
  | .ptr d => uptoBulk d + 1
  | .slice elems spare => uptoBulkAll elems + uptoBulkAll spare + 1
  | .agg parts => uptoBulkAll parts + 1
  | .iface _ d => uptoBulk d + 1
  | .map entries => uptoBulkEntries entries + 1
  | .held _ => 1
def uptoBulkAll {H : Type} : List (DataW H) → Nat
  | [] => 0
  | d :: r => uptoBulk d + uptoBulkAll r
def uptoBulkEntries {H : Type} : List (Lit × DataW H) → Nat
  | [] => 0
  | x :: r => uptoBulkEntry x + uptoBulkEntries r
def uptoBulkEntry {H : Type} : Lit × DataW H → Nat
  | (.string bytes, d) => bytes.length + uptoBulk d + 1
  | (_, d) => uptoBulk d + 1
 end
def uptoSmall : (H : Type) → List (DataW H) → Bool := fun _ ds => decide (uptoBulkAll ds ≤ 1048576)
def OpenSpec.upto (s : _root_.Go.ChangeSpec) : _root_.Go.OpenSpec := { _root_.Go.OpenSpec.ofChange s with cond := some uptoSmall }

/-- 'crimplaw22.RingsValid', WHERE WHAT IT READS IS OF BULK AT MOST 1048576: true; the input reads as it did. -/
def ringsValidUptoRow : OpenClaim := { program := "ytofimkliemlojaa", sum := "3b65b36026c3028d3ade341bddfe182e7b69d4fe862b96dc3de82f0e5f2ba5e2", func := "crimp/crimplaw22.RingsValid", spec := "ringsValid", inPlace := ["slices.overlaps[int]"], unfollowed := true, recurses := true, plainKeys := false, apart := false, narrowed := true }
def RingsValidUptoSaid : Prop := ringsValidUptoRow.holds Try.pinned (OpenSpec.upto ringsValidSpec)

/-- 'crimplaw22.RingsCount', WHERE WHAT IT READS IS OF BULK AT MOST 1048576: true; the input reads as it did. -/
def ringsCountUptoRow : OpenClaim := { program := "ytofimkliemlojaa", sum := "3b65b36026c3028d3ade341bddfe182e7b69d4fe862b96dc3de82f0e5f2ba5e2", func := "crimp/crimplaw22.RingsCount", spec := "ringsCount", inPlace := ["slices.overlaps[int]"], unfollowed := true, recurses := true, plainKeys := false, apart := false, narrowed := true }
def RingsCountUptoSaid : Prop := ringsCountUptoRow.holds Try.pinned (OpenSpec.upto ringsCountSpec)

/-- 'crimplaw22.RingsLeast', WHERE WHAT IT READS IS OF BULK AT MOST 1048576: true; the input reads as it did. -/
def ringsLeastUptoRow : OpenClaim := { program := "ytofimkliemlojaa", sum := "3b65b36026c3028d3ade341bddfe182e7b69d4fe862b96dc3de82f0e5f2ba5e2", func := "crimp/crimplaw22.RingsLeast", spec := "ringsLeast", inPlace := ["slices.overlaps[int]"], unfollowed := true, recurses := true, plainKeys := false, apart := false, narrowed := true }
def RingsLeastUptoSaid : Prop := ringsLeastUptoRow.holds Try.pinned (OpenSpec.upto ringsLeastSpec)

/-- 'crimplaw22.RingsTurn', WHERE WHAT IT READS IS OF BULK AT MOST 1048576: true; the input reads as it did. -/
def ringsTurnUptoRow : OpenClaim := { program := "ytofimkliemlojaa", sum := "3b65b36026c3028d3ade341bddfe182e7b69d4fe862b96dc3de82f0e5f2ba5e2", func := "crimp/crimplaw22.RingsTurn", spec := "ringsTurn", inPlace := ["slices.overlaps[int]"], unfollowed := true, recurses := true, plainKeys := false, apart := false, narrowed := true }
def RingsTurnUptoSaid : Prop := ringsTurnUptoRow.holds Try.pinned (OpenSpec.upto ringsTurnSpec)

/-- 'crimplaw22.RingsErrors', WHERE WHAT IT READS IS OF BULK AT MOST 1048576: true; the input reads as it did. -/
def ringsErrorsUptoRow : OpenClaim := { program := "ytofimkliemlojaa", sum := "3b65b36026c3028d3ade341bddfe182e7b69d4fe862b96dc3de82f0e5f2ba5e2", func := "crimp/crimplaw22.RingsErrors", spec := "ringsErrors", inPlace := ["slices.overlaps[int]"], unfollowed := true, recurses := true, plainKeys := false, apart := false, narrowed := true }
def RingsErrorsUptoSaid : Prop := ringsErrorsUptoRow.holds Try.pinned (OpenSpec.upto ringsErrorsSpec)

/-- 'crimplaw22.RingsDifference', WHERE WHAT IT READS IS OF BULK AT MOST 1048576: true; the input reads as it did. -/
def ringsDifferenceUptoRow : OpenClaim := { program := "ytofimkliemlojaa", sum := "3b65b36026c3028d3ade341bddfe182e7b69d4fe862b96dc3de82f0e5f2ba5e2", func := "crimp/crimplaw22.RingsDifference", spec := "ringsDifference", inPlace := ["slices.overlaps[int]"], unfollowed := true, recurses := true, plainKeys := false, apart := false, narrowed := true }
def RingsDifferenceUptoSaid : Prop := ringsDifferenceUptoRow.holds Try.pinned (OpenSpec.upto ringsDifferenceSpec)

end Rows
end Go.Proofs.Ytofimkliemlojaa
