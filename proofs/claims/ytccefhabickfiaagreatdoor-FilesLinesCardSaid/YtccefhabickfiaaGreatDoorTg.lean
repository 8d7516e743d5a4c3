/- Segments: the tables of the sheets of at most four by four squares. -/
import Derived.Test.YtccefhabickfiaaGreatDoorTa
set_option linter.unusedSimpArgs false
set_option linter.unusedVariables false
namespace Go.Vm
namespace X
open W
set_option maxRecDepth 100000
theorem jp6:Tab 1 1 (jS 1 1):=by constructor<;>kernel_rfl
theorem jp7:Tab 1 2 (jS 1 2):=by constructor<;>kernel_rfl
theorem jp8:Tab 1 3 (jS 1 3):=by constructor<;>kernel_rfl
theorem jp9:Tab 1 4 (jS 1 4):=by constructor<;>kernel_rfl
theorem jqa:Tab 2 1 (jS 2 1):=by constructor<;>kernel_rfl
theorem jqb:Tab 2 2 (jS 2 2):=by constructor<;>kernel_rfl
theorem jqc:Tab 2 3 (jS 2 3):=by constructor<;>kernel_rfl
theorem jqd:Tab 2 4 (jS 2 4):=by constructor<;>kernel_rfl
theorem jqe:Tab 3 1 (jS 3 1):=by constructor<;>kernel_rfl
theorem jqf:Tab 3 2 (jS 3 2):=by constructor<;>kernel_rfl
theorem jqg:Tab 3 3 (jS 3 3):=by constructor<;>kernel_rfl
theorem jqh:Tab 3 4 (jS 3 4):=by constructor<;>kernel_rfl
theorem jqi:Tab 4 1 (jS 4 1):=by constructor<;>kernel_rfl
theorem jqj:Tab 4 2 (jS 4 2):=by constructor<;>kernel_rfl
theorem jqk:Tab 4 3 (jS 4 3):=by constructor<;>kernel_rfl
theorem jql:Tab 4 4 (jS 4 4):=by constructor<;>kernel_rfl
end X
end Go.Vm
