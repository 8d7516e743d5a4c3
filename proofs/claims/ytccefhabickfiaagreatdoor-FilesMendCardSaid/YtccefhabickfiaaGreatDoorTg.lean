/- Parts of the proof. -/
import Derived.Test.YtccefhabickfiaaGreatDoorTa
namespace Go.Vm
namespace X
open W
set_option maxRecDepth 100000
theorem j80:Tab 1 1 (fA 1 1):=by constructor<;>kernel_rfl
theorem j81:Tab 1 2 (fA 1 2):=by constructor<;>kernel_rfl
theorem j82:Tab 1 3 (fA 1 3):=by constructor<;>kernel_rfl
theorem j83:Tab 1 4 (fA 1 4):=by constructor<;>kernel_rfl
theorem j86:Tab 2 1 (fA 2 1):=by constructor<;>kernel_rfl
theorem j87:Tab 2 2 (fA 2 2):=by constructor<;>kernel_rfl
theorem j88:Tab 2 3 (fA 2 3):=by constructor<;>kernel_rfl
theorem j89:Tab 2 4 (fA 2 4):=by constructor<;>kernel_rfl
theorem j9c:Tab 3 1 (fA 3 1):=by constructor<;>kernel_rfl
theorem j9d:Tab 3 2 (fA 3 2):=by constructor<;>kernel_rfl
theorem j9e:Tab 3 3 (fA 3 3):=by constructor<;>kernel_rfl
theorem j9f:Tab 3 4 (fA 3 4):=by constructor<;>kernel_rfl
theorem j9i:Tab 4 1 (fA 4 1):=by constructor<;>kernel_rfl
theorem j9j:Tab 4 2 (fA 4 2):=by constructor<;>kernel_rfl
theorem j9k:Tab 4 3 (fA 4 3):=by constructor<;>kernel_rfl
theorem j9l:Tab 4 4 (fA 4 4):=by constructor<;>kernel_rfl
end X
end Go.Vm
