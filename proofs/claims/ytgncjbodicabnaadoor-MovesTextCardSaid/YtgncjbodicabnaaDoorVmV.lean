/-
  The program's text for the machine. (Printed by a program.)
-/
import Derived.Test.YtgncjbodicabnaaDoorVmU
import Derived.KernelRfl
set_option linter.unusedSimpArgs false
set_option linter.unusedVariables false

namespace Go.Proofs.YtgncjbodicabnaaDoor
namespace Vm
open Go Go.Vm Go.Vm.W Go.Vm.Swift
noncomputable section
set_option maxRecDepth 100000
theorem lives_S (mx : Int) : runS progS 60 livesN [] (H0 mx) nx0 nx0 W.isT = true := by kernel_rfl
theorem lives_run (mx : Int) : ∃ H' nx', run prog 60 livesN [] (BB mx).H0 (BB mx).nx0 (BB mx).nx0 = some (.bool true, H', nx') := run_of_runS progS_eq ul_ok (lives_S mx)
theorem memo_ok (mx : Int) : MemoOK Tryd.prog gl (BB mx) (memo1 livesN) := memo1_ok (BB_closed mx) (BB_wf mx) (run_ok mixed prog_ok 60).1 (gl_lt mx) (lives_run mx)

end
end Vm
end Go.Proofs.YtgncjbodicabnaaDoor

