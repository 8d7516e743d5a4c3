/-
  Strips: the told functions of the chapter.
-/
import Derived.Test.YtdngfcfomcffmaaGreatDoorVmP
import Derived.Test.YtdngfcfomcffmaaGreatDoorVmWJ
import Derived.Test.YtdngfcfomcffmaaGreatDoorVmWS
import Derived.Test.YtdngfcfomcffmaaGreatDoorVmWU
import Derived.Test.YtdngfcfomcffmaaGreatDoorSt
import Derived.Test.YtdngfcfomcffmaaGreatDoorSh
set_option linter.unusedSimpArgs false
set_option linter.unusedVariables false
namespace Go.Proofs.YtdngfcfomcffmaaGreatDoor
namespace Vm
open Go Go.Vm Go.Vm.W
set_option maxRecDepth 100000
attribute [local irreducible] W WO SpecQ runM
def mm0:Memo:=fun _ _=>none
theorem mm0_ok {B:Base}:MemoOK Tryz.prog gl B mm0:=fun f az g h=>by cases h
noncomputable abbrev R0 (mx:Int) (n:Nat):=runM (BB mx) mm0 prog n
noncomputable def told (mx:Int):Memo:=memoOr (tEnds (R0 mx 3) 33 29 St.endsL) (memoOr (tAtoi 66 110) (memoOr (tSplit 64) (memoOr (tJoin 59) (memoOr (tLen 99) (tLog 98)))))
noncomputable abbrev RN (mx:Int) (n:Nat):=runM (BB mx) (told mx) prog n
abbrev SV (mx:Int) (n:Nat) (f:FuncId) (az:List AV) (v:AV):Prop:=SpecQ (BB mx) (RN mx n) f az [] (fun u N=>u=v∧N=[])
theorem told_ok (mx:Int):MemoOK Tryz.prog gl (BB mx) (told mx):=
 memoOr_ok (tEnds_ok (runM_ok mm0_ok mixed prog_ok 3).1 ⟨Tryz.f33,Tryz.func33,by kernel_rfl,by kernel_rfl⟩ St.ends_c1 St.ends_c2)
 (memoOr_ok (tAtoi_ok ⟨Tryz.f66,Tryz.func66,by kernel_rfl,by kernel_rfl⟩ (gs:=1) (gr:=2) rfl rfl (by kernel_rfl) (by kernel_rfl) Tryz.strconv_Atoi_ok Tryz.strconv_Atoi_syntax Tryz.strconv_Atoi_range)
 (memoOr_ok (tSplit_ok ⟨Tryz.f64,Tryz.func64,by kernel_rfl,by kernel_rfl⟩ (g1:=4) rfl (by kernel_rfl) Tryz.strings_Split)
 (memoOr_ok (tJoin_ok ⟨Tryz.f59,Tryz.func59,by kernel_rfl,by kernel_rfl⟩ Tryz.strings_Join_none Tryz.strings_Join)
 (memoOr_ok (tLen_ok ⟨Tryz.f99,Tryz.func99,by kernel_rfl,by kernel_rfl⟩ Tryz.bits_Len64)
   (tLog_ok ⟨Tryz.f98,Tryz.func98,by kernel_rfl,by kernel_rfl⟩ Tryz.internal_strconv_log10Pow2)))))
end Vm
end Go.Proofs.YtdngfcfomcffmaaGreatDoor
