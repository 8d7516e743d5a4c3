/-
  Functions of the library that are told: strconv.Atoi, strconv.ParseUint(s, 10, 8), strings.Split, out of the library's contracts.
  A told function that ranges over a function: strips.Ends; new cells behind a walk of the model.
  Told functions: strings.Join.
-/
import Derived.Test.YtahplmacekfjgaaVmWG
import Derived.Lib.ParseIntB
import Derived.Lib.SplitLaws
import Derived.Lib.AtoiErrMem
import Derived.Lib.ItoaNum
import Derived.Lib.Join
set_option linter.unusedSimpArgs false
set_option linter.unusedVariables false
set_option linter.unusedSectionVars false
set_option linter.unnecessarySimpa false
namespace Go.Vm
namespace W
open Go Go.RowKit
variable {P:Program} {gl:List Nat} {B:Base}
theorem Below.quiet {w w':World} (h:Below w.heap.size w w'):Quiet w w':=⟨h.os,h.tape,h.output,h.size,h.block⟩
def u8 (s:List Nat):List UInt8:=s.map UInt8.ofNat
def FnOK (P:Program) (f:FuncId):Prop:=∃fn,P.funcs[f]?=some fn∧(fn.name== "runtime.NumGoroutine")=false∧fn.body.isSome=true
end W
end Go.Vm
namespace Go.Vm
namespace W
open Go Go.RowKit
variable {P:Program} {gl:List Nat} {B:Base}
end W
end Go.Vm
namespace Go.Vm
namespace W
open Go Go.RowKit
variable {P:Program} {gl:List Nat} {B:Base}
end W
end Go.Vm
