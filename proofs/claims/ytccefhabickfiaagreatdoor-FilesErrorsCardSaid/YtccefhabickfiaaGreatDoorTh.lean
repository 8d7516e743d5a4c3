/-
  Segments: the tables of the sheets with a side of five squares.
-/
import Derived.Test.YtccefhabickfiaaGreatDoorTa
set_option linter.unusedSimpArgs false
set_option linter.unusedVariables false
set_option linter.unusedSectionVars false
set_option linter.unnecessarySimpa false
namespace Go.Vm
namespace X
open W
set_option maxRecDepth 100000
theorem jwv:Tab 1 5 (lU 1 5):=by constructor<;>kernel_rfl
theorem jww:Tab 2 5 (lU 2 5):=by constructor<;>kernel_rfl
theorem jwx:Tab 3 5 (lU 3 5):=by constructor<;>kernel_rfl
theorem jwy:Tab 4 5 (lU 4 5):=by constructor<;>kernel_rfl
theorem jil:Tab 5 5 (lU 5 5):=by constructor<;>kernel_rfl
theorem jwz:Tab 5 1 (lU 5 1):=by constructor<;>kernel_rfl
theorem jw0:Tab 5 2 (lU 5 2):=by constructor<;>kernel_rfl
theorem jw1:Tab 5 3 (lU 5 3):=by constructor<;>kernel_rfl
theorem jw2:Tab 5 4 (lU 5 4):=by constructor<;>kernel_rfl
end X
end Go.Vm
