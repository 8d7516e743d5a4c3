/-
  Which rule is next: the form of what stands there.
-/
import Derived.Test.YtonohffniohehaaGreatDoorVmWD
set_option linter.unusedSimpArgs false
set_option linter.unusedVariables false
set_option linter.unusedSectionVars false
set_option linter.unnecessarySimpa false
namespace Go.Vm
namespace W
variable {B:Base} {call:FuncId→List AV→Tr Blk→Nat→Nat→Out} {ro:Nat} {t:Fr} {O:List Ent} {K:Fr→List Ent→Prop} {r:List COp} {d:Nat} {dd:Option Nat} {q:Bool} {ex:List Opd} {x y:Opd} {i:I} {j:J} {tg:Nat} {w:Bool} {op:BinOp} {Q:Ex→Fr→List Ent→Prop} {a b:CC}
end W
end Go.Vm
