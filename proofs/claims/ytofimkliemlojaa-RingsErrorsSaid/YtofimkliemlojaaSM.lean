/-
  Rings: the told functions of the chapter.
-/
import Derived.Test.YtofimkliemlojaaVmP
import Derived.Test.YtofimkliemlojaaVmWJ
import Derived.Test.YtofimkliemlojaaVmWU
import Derived.Test.YtofimkliemlojaaVmY4
import Derived.Test.YtofimkliemlojaaIns
import Derived.Test.YtofimkliemlojaaSrt
set_option linter.unusedSimpArgs false
set_option linter.unusedVariables false
set_option linter.unusedSectionVars false
set_option linter.unnecessarySimpa false
namespace Go.Proofs.Ytofimkliemlojaa
namespace Vm
open Go Go.Vm Go.Vm.W
set_option maxRecDepth 100000
attribute [local irreducible] W WO SpecQ runM
noncomputable def told (mx:Int):Memo:=memoOr (tIns 59) (memoOr (tGrow 77) (memoOr (tGrow 78) (tSort Srt.ordL 60 61)))
theorem told_ok (mx:Int):MemoOK Try.prog gl (BB mx) (told mx):=
 memoOr_ok (tIns_ok ⟨Try.f59,Try.func59,by kernel_rfl,by kernel_rfl⟩ InsC.ins_c InsC.ins_0 InsC.ins_00)
 (memoOr_ok (tGrow_ok ⟨Try.f77,Try.func77,by kernel_rfl,by kernel_rfl⟩ Gw.zero77 Gw.grow77)
 (memoOr_ok (tGrow_ok ⟨Try.f78,Try.func78,by kernel_rfl,by kernel_rfl⟩ Gw.zero78 Gw.grow78)
   (tSort_ok ⟨Try.f60,Try.func60,by kernel_rfl,by kernel_rfl⟩ Srt.ord_ok Srt.none60 Srt.sorts)))
end Vm
end Go.Proofs.Ytofimkliemlojaa
