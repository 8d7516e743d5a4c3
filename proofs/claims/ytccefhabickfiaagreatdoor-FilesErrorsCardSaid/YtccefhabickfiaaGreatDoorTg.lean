/-
  Segments: the tables of the sheets of at most four by four squares.
-/
import Derived.Test.YtccefhabickfiaaGreatDoorTa
set_option linter.unusedSimpArgs false
set_option linter.unusedVariables false
set_option linter.unusedSectionVars false
set_option linter.unnecessarySimpa false
namespace Go.Vm
namespace X
open W
set_option maxRecDepth 100000
theorem jh5:Tab 1 1 (lU 1 1):=by constructor<;>kernel_rfl
theorem jh6:Tab 1 2 (lU 1 2):=by constructor<;>kernel_rfl
theorem jh7:Tab 1 3 (lU 1 3):=by constructor<;>kernel_rfl
theorem jh8:Tab 1 4 (lU 1 4):=by constructor<;>kernel_rfl
theorem jh9:Tab 2 1 (lU 2 1):=by constructor<;>kernel_rfl
theorem jia:Tab 2 2 (lU 2 2):=by constructor<;>kernel_rfl
theorem jib:Tab 2 3 (lU 2 3):=by constructor<;>kernel_rfl
theorem jic:Tab 2 4 (lU 2 4):=by constructor<;>kernel_rfl
theorem jid:Tab 3 1 (lU 3 1):=by constructor<;>kernel_rfl
theorem jie:Tab 3 2 (lU 3 2):=by constructor<;>kernel_rfl
theorem jif:Tab 3 3 (lU 3 3):=by constructor<;>kernel_rfl
theorem jig:Tab 3 4 (lU 3 4):=by constructor<;>kernel_rfl
theorem jih:Tab 4 1 (lU 4 1):=by constructor<;>kernel_rfl
theorem jii:Tab 4 2 (lU 4 2):=by constructor<;>kernel_rfl
theorem jij:Tab 4 3 (lU 4 3):=by constructor<;>kernel_rfl
theorem jik:Tab 4 4 (lU 4 4):=by constructor<;>kernel_rfl
end X
end Go.Vm
