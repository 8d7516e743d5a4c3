/-
  The program's text for the machine. (Printed by a program.)
-/
import Derived.Test.YtofimkliemlojaaRows
import Derived.Test.YtofimkliemlojaaVmWG
import Derived.Test.YtofimkliemlojaaIt
import Derived.KernelRfl
set_option linter.unusedSimpArgs false
set_option linter.unusedVariables false
set_option linter.unusedSectionVars false
set_option linter.unnecessarySimpa false
namespace Go.Proofs.Ytofimkliemlojaa
namespace Vm
open Go Go.Vm Go.Vm.W
noncomputable section
set_option maxRecDepth 100000
def gl:List Nat:=[]
def nx0:Nat:=0
def ex:List (Nat×List AV):=[]
def es:List (Nat×List AV):=[]
def H0:Tr Blk:=.e
abbrev its:Its:=Go.Vm.X.itsL
theorem its_ok:ItsOK Try.prog gl its:=Go.Vm.X.itsL_ok
theorem H0_eq (_:Int):ofEnts (ex++es)=H0:=by kernel_rfl
def BB (_:Int):Base:=⟨H0,nx0⟩
theorem mixed:Try.prog.follows .mixedOrders=true:=by kernel_rfl
end
end Vm
end Go.Proofs.Ytofimkliemlojaa
