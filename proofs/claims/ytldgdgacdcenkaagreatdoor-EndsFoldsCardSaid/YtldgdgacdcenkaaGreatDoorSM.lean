/-
  Strips: the told functions of the chapter.
-/
import Derived.Test.YtldgdgacdcenkaaGreatDoorVmP
import Derived.Test.YtldgdgacdcenkaaGreatDoorVmWJ
import Derived.Test.YtldgdgacdcenkaaGreatDoorVmWS
import Derived.Test.YtldgdgacdcenkaaGreatDoorVmWU
import Derived.Test.YtldgdgacdcenkaaGreatDoorVmY4
import Derived.Test.YtldgdgacdcenkaaGreatDoorSt
import Derived.Test.YtldgdgacdcenkaaGreatDoorRep
set_option linter.unusedSimpArgs false
set_option linter.unusedVariables false
set_option linter.unusedSectionVars false
set_option linter.unnecessarySimpa false
namespace Go.Proofs.YtldgdgacdcenkaaGreatDoor
namespace Vm
open Go Go.Vm Go.Vm.W
set_option maxRecDepth 100000
attribute [local irreducible] W WO SpecQ runM
def mm0:Memo:=fun _ _=>none
theorem mm0_ok {B:Base}:MemoOK Tryz.prog gl B mm0:=fun f az g h=>by cases h
noncomputable abbrev R0 (mx:Int) (n:Nat):=runM (BB mx) mm0 prog n
noncomputable def told (mx:Int):Memo:=memoOr (tEnds (R0 mx 3) 73 41 St.endsL) (memoOr (tAtoi 68 133) (memoOr (tSplit 66) (memoOr (tJoin 50) (memoOr (tLen 109) (memoOr (tLog 108) (memoOr (tIns 61) (memoOr (tRep 62) (memoOr (tGrow 64) (tGrow 65)))))))))
theorem told_ok (mx:Int):MemoOK Tryz.prog gl (BB mx) (told mx):=
 memoOr_ok (tEnds_ok (runM_ok mm0_ok mixed prog_ok 3).1 ⟨Tryz.f73,Tryz.func73,by kernel_rfl,by kernel_rfl⟩ (fun L h=>by simp[St.endsL];omega) St.ends_c1 St.ends_c2)
 (memoOr_ok (tAtoi_ok ⟨Tryz.f68,Tryz.func68,by kernel_rfl,by kernel_rfl⟩ (gs:=2) (gr:=3) rfl rfl (by kernel_rfl) (by kernel_rfl) Tryz.strconv_Atoi_ok Tryz.strconv_Atoi_syntax Tryz.strconv_Atoi_range)
 (memoOr_ok (tSplit_ok ⟨Tryz.f66,Tryz.func66,by kernel_rfl,by kernel_rfl⟩ (g1:=5) rfl (by kernel_rfl) Tryz.strings_Split)
 (memoOr_ok (tJoin_ok ⟨Tryz.f50,Tryz.func50,by kernel_rfl,by kernel_rfl⟩ Tryz.strings_Join_none Tryz.strings_Join)
 (memoOr_ok (tLen_ok ⟨Tryz.f109,Tryz.func109,by kernel_rfl,by kernel_rfl⟩ Tryz.bits_Len64)
 (memoOr_ok (tLog_ok ⟨Tryz.f108,Tryz.func108,by kernel_rfl,by kernel_rfl⟩ Tryz.internal_strconv_log10Pow2)
 (memoOr_ok (tIns_ok ⟨Tryz.f61,Tryz.func61,by kernel_rfl,by kernel_rfl⟩ InsC.ins_c InsC.ins_0)
 (memoOr_ok (tRep_ok ⟨Tryz.f62,Tryz.func62,by kernel_rfl,by kernel_rfl⟩ InsC.rep_c)
 (memoOr_ok (tGrow_ok ⟨Tryz.f64,Tryz.func64,by kernel_rfl,by kernel_rfl⟩ Gw.zero64 Gw.grow64)
   (tGrow_ok ⟨Tryz.f65,Tryz.func65,by kernel_rfl,by kernel_rfl⟩ Gw.zero65 Gw.grow65)))))))))
end Vm
end Go.Proofs.YtldgdgacdcenkaaGreatDoor
