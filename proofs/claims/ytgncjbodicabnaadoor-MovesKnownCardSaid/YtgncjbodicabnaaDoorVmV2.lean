/-
  The examples of the chapter, run by the kernel: true.
-/
import Derived.Test.YtgncjbodicabnaaDoorVmZR
import Derived.Test.YtgncjbodicabnaaDoorVmP
import Derived.KernelRfl
set_option linter.unusedSimpArgs false
set_option linter.unusedVariables false

namespace Go.Proofs.YtgncjbodicabnaaDoor
namespace Vm
open Go Go.Vm Go.Vm.W
noncomputable section
set_option maxRecDepth 100000
def isTrue : Out → Bool := fun o => match o with
  | some (.bool b, _, _) => b
  | _ => false
theorem lives_K (mx : Int) : isTrue (Quick.runK prog 60 14 [] (H0 mx) nx0 nx0) = true := by kernel_rfl
theorem lives_run (mx : Int) : ∃ H' nx', run prog 60 14 [] (BB mx).H0 (BB mx).nx0 (BB mx).nx0 = some (.bool true, H', nx') := by
  have h := lives_K mx
  rw [Quick.runK_eq] at h
  show ∃ H' nx', run prog 60 14 [] (H0 mx) nx0 nx0 = some (.bool true, H', nx')
  unfold isTrue at h
  split at h
  · rename_i b H' nx' e
    subst h
    exact ⟨H', nx', e⟩
  · cases h
theorem memo_ok (mx : Int) : MemoOK Tryd.prog gl (BB mx) (memo1 14) := memo1_ok (BB_closed mx) (BB_wf mx) (run_ok mixed prog_ok 60).1 (gl_lt mx) (lives_run mx)
end
end Vm
end Go.Proofs.YtgncjbodicabnaaDoor

