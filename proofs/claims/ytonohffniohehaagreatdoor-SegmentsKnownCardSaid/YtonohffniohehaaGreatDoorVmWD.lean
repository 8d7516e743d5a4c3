/-
  The rules in the form in which a proof goes through a function's text.
-/
import Derived.Test.YtonohffniohehaaGreatDoorVmWC
set_option linter.unusedSimpArgs false
set_option linter.unusedVariables false
set_option linter.unusedSectionVars false
set_option linter.unnecessarySimpa false
namespace Go.Vm
namespace W
variable {B:Base} {call:FuncId→List AV→Tr Blk→Nat→Nat→Out} {ro:Nat}
section
variable {t:Fr} {O:List Ent} {K:Fr→List Ent→Prop} {r:List COp} {d:Nat} {q:Bool} {ex:List Opd} {x y:Opd}
section ints
variable {k:IntKind} {a b:Int}
end ints
inductive At:List Ent→Nat→HB→(HB→List Ent)→Prop where
 | here {b c O}:At (⟨b,true,c⟩::O) b c (fun c'=>⟨b,true,c'⟩::O)
 | there {e b c O f}:At O b c f→At (e::O) b c (fun c'=>e::f c')
end
section
variable {O O':List Ent} {v x y z:AV} {t:Fr} {a b c d e f o o' n m:Nat} {g g':Bool} {l l':List AV}
end
section
variable {t:Fr} {O:List Ent} {Q:Ex→Fr→List Ent→Prop} {a b c r:CC}
end
end W
end Go.Vm
