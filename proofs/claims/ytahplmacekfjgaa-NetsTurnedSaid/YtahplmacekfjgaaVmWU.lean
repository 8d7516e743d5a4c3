/-
  Variables of the start that hold an interface: what is known of them.
-/
import Derived.Test.YtahplmacekfjgaaVmWF
set_option linter.unusedSimpArgs false
set_option linter.unusedVariables false
set_option linter.unusedSectionVars false
set_option linter.unnecessarySimpa false
namespace Go.Vm
namespace W
open Go Go.RowKit
variable {P:Program}
def rho1 (w:World) (G:Nat) (ps:List Loc):RM:=fun b=>if b<G then rho0 w G b else ps[b-G]?
theorem rho1_free {w:World} {G n:Nat} {ps:List Loc} (h:G+ps.length≤n):∀b,n≤b→rho1 w G ps b=none:=fun b hb=>by
 unfold rho1
 rw[if_neg (by omega),List.getElem?_eq_none (by omega)]
end W
end Go.Vm
