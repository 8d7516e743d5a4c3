/-
  Which rule is next: the form of what stands there.
-/
import Derived.Test.YtppgnpodkmacoaaGreatDoorVmWD
set_option linter.unusedSimpArgs false
set_option linter.unusedVariables false

namespace Go.Vm
namespace W
variable {B : Base} {call : FuncId → List AV → Tr Blk → Nat → Nat → Out} {ro : Nat} {t : Fr} {O : List Ent} {K : Fr → List Ent → Prop} {r : List COp} {d : Nat} {dd : Option Nat} {q : Bool} {ex : List Opd} {x y : Opd} {i : I} {j : J} {tg : Nat} {w : Bool} {op : BinOp} {Q : Ex → Fr → List Ent → Prop} {a b : CC}
theorem A_p (h : WO B call ro (⟨some d, none, .p i, q, ex⟩ :: r) t O K) : WO B call ro (⟨some d, none, .p i, q, ex⟩ :: r) t O K := h
theorem A_bin (h : WO B call ro (⟨some d, none, .p (.bin op x y), q, ex⟩ :: r) t O K) : WO B call ro (⟨some d, none, .p (.bin op x y), q, ex⟩ :: r) t O K := h
theorem A_h (h : WO B call ro (⟨dd, none, .h i, q, ex⟩ :: r) t O K) : WO B call ro (⟨dd, none, .h i, q, ex⟩ :: r) t O K := h
theorem A_g (h : WO B call ro (⟨dd, some (tg, w), j, q, ex⟩ :: r) t O K) : WO B call ro (⟨dd, some (tg, w), j, q, ex⟩ :: r) t O K := h
theorem A_load {g : Bool} {n : Nat} (h : WO B call ro (⟨dd, none, .h (.load g n x), q, ex⟩ :: r) t O K) : WO B call ro (⟨dd, none, .h (.load g n x), q, ex⟩ :: r) t O K := h
theorem A_call {f : FuncId} {xs : List Opd} (h : WO B call ro (⟨dd, none, .h (.call f xs), q, ex⟩ :: r) t O K) : WO B call ro (⟨dd, none, .h (.call f xs), q, ex⟩ :: r) t O K := h
theorem A_seq (h : W B call ro (.seq a b) t O Q) : W B call ro (.seq a b) t O Q := h
end W
end Go.Vm
