/- Parts of the proof. -/
import Derived.Test.YtccefhabickfiaaGreatDoorTa
namespace Go.Vm
namespace X
open W
set_option maxRecDepth 100000
theorem j84:Tab 1 5 (fA 1 5):=by constructor<;>kernel_rfl
theorem j9a:Tab 2 5 (fA 2 5):=by constructor<;>kernel_rfl
theorem j9g:Tab 3 5 (fA 3 5):=by constructor<;>kernel_rfl
theorem j9m:Tab 4 5 (fA 4 5):=by constructor<;>kernel_rfl
theorem jqz:Tab 5 5 (fA 5 5):=by constructor<;>kernel_rfl
theorem j9o:Tab 5 1 (fA 5 1):=by constructor<;>kernel_rfl
theorem j9p:Tab 5 2 (fA 5 2):=by constructor<;>kernel_rfl
theorem j9q:Tab 5 3 (fA 5 3):=by constructor<;>kernel_rfl
theorem j9r:Tab 5 4 (fA 5 4):=by constructor<;>kernel_rfl
end X
end Go.Vm
