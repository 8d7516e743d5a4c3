/-
  The program's text for the machine. (Printed by a program.)
-/
import Derived.Test.YtgncjbodicabnaaDoorVmU
import Derived.KernelRfl
set_option linter.unusedSimpArgs false
set_option linter.unusedVariables false

namespace Go.Proofs.YtgncjbodicabnaaDoor
namespace Vm
open Go Go.Vm Go.Vm.W Go.Vm.Swift
noncomputable section
set_option maxRecDepth 100000
theorem lives_S : runS progS 60 livesN [] H0 nx0 nx0 W.isT = true := by kernel_rfl
theorem lives_run : ∃ H' nx', run prog 60 livesN [] BB.H0 BB.nx0 BB.nx0 = some (.bool true, H', nx') := run_of_runS progS_eq ul_ok lives_S
theorem memo_ok : MemoOK Tryd.prog gl BB (memo1 livesN) := memo1_ok BB_closed BB_wf (run_ok mixed prog_ok 60).1 gl_lt lives_run

end
end Vm
end Go.Proofs.YtgncjbodicabnaaDoor

