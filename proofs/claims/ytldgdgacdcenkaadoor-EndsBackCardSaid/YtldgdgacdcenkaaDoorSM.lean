/-
  Strips: the told functions of the chapter.
-/
import Derived.Test.YtldgdgacdcenkaaDoorVmP
import Derived.Test.YtldgdgacdcenkaaDoorVmWJ
import Derived.Test.YtldgdgacdcenkaaDoorVmWS
import Derived.Test.YtldgdgacdcenkaaDoorVmWU
import Derived.Test.YtldgdgacdcenkaaDoorVmY4
import Derived.Test.YtldgdgacdcenkaaDoorRep
set_option linter.unusedSimpArgs false
set_option linter.unusedVariables false
set_option linter.unusedSectionVars false
set_option linter.unnecessarySimpa false
namespace Go.Proofs.YtldgdgacdcenkaaDoor
namespace Vm
open Go Go.Vm Go.Vm.W
set_option maxRecDepth 100000
attribute [local irreducible] W WO SpecQ runM
noncomputable def told (mx:Int):Memo:=memoOr (tAtoi 42 108) (memoOr (tSplit 40) (memoOr (tJoin 29) (memoOr (tLen 84) (memoOr (tLog 83) (memoOr (tIns 37) (memoOr (tRep 39) (memoOr (tGrow 50) (tGrow 51))))))))
theorem told_ok (mx:Int):MemoOK Tryd.prog gl (BB mx) (told mx):=
 (memoOr_ok (tAtoi_ok ⟨Tryd.f42,Tryd.func42,by kernel_rfl,by kernel_rfl⟩ (gs:=2) (gr:=3) rfl rfl (by kernel_rfl) (by kernel_rfl) Tryd.strconv_Atoi_ok Tryd.strconv_Atoi_syntax Tryd.strconv_Atoi_range)
 (memoOr_ok (tSplit_ok ⟨Tryd.f40,Tryd.func40,by kernel_rfl,by kernel_rfl⟩ (g1:=5) rfl (by kernel_rfl) Tryd.strings_Split)
 (memoOr_ok (tJoin_ok ⟨Tryd.f29,Tryd.func29,by kernel_rfl,by kernel_rfl⟩ Tryd.strings_Join_none Tryd.strings_Join)
 (memoOr_ok (tLen_ok ⟨Tryd.f84,Tryd.func84,by kernel_rfl,by kernel_rfl⟩ Tryd.bits_Len64)
 (memoOr_ok (tLog_ok ⟨Tryd.f83,Tryd.func83,by kernel_rfl,by kernel_rfl⟩ Tryd.internal_strconv_log10Pow2)
 (memoOr_ok (tIns_ok ⟨Tryd.f37,Tryd.func37,by kernel_rfl,by kernel_rfl⟩ InsC.ins_c InsC.ins_0)
 (memoOr_ok (tRep_ok ⟨Tryd.f39,Tryd.func39,by kernel_rfl,by kernel_rfl⟩ InsC.rep_c)
 (memoOr_ok (tGrow_ok ⟨Tryd.f50,Tryd.func50,by kernel_rfl,by kernel_rfl⟩ Gw.zero50 Gw.grow50)
   (tGrow_ok ⟨Tryd.f51,Tryd.func51,by kernel_rfl,by kernel_rfl⟩ Gw.zero51 Gw.grow51)))))))))
end Vm
end Go.Proofs.YtldgdgacdcenkaaDoor
