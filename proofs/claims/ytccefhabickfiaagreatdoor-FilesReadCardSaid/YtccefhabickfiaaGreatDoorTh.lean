/- Segments: the tables of the sheets with a side of five squares. -/
import Derived.Test.YtccefhabickfiaaGreatDoorTa
set_option linter.unusedSimpArgs false
set_option linter.unusedVariables false
namespace Go.Vm
namespace X
open W
set_option maxRecDepth 100000
theorem j5g:Tab 1 5 (jS 1 5):=by constructor<;>kernel_rfl
theorem j5i:Tab 2 5 (jS 2 5):=by constructor<;>kernel_rfl
theorem j5k:Tab 3 5 (jS 3 5):=by constructor<;>kernel_rfl
theorem j5m:Tab 4 5 (jS 4 5):=by constructor<;>kernel_rfl
theorem jqm:Tab 5 5 (jS 5 5):=by constructor<;>kernel_rfl
theorem j5o:Tab 5 1 (jS 5 1):=by constructor<;>kernel_rfl
theorem j5p:Tab 5 2 (jS 5 2):=by constructor<;>kernel_rfl
theorem j5q:Tab 5 3 (jS 5 3):=by constructor<;>kernel_rfl
theorem j5r:Tab 5 4 (jS 5 4):=by constructor<;>kernel_rfl
end X
end Go.Vm
