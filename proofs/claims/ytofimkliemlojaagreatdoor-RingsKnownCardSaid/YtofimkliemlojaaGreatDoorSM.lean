/-
  Rings: the jk9 functions of the chapter.
-/
import Derived.Test.YtofimkliemlojaaGreatDoorVmP
import Derived.Test.YtofimkliemlojaaGreatDoorVmWU
import Derived.Test.YtofimkliemlojaaGreatDoorStE
import Derived.Test.YtofimkliemlojaaGreatDoorIns
import Derived.Test.YtofimkliemlojaaGreatDoorSrt
set_option linter.unusedSimpArgs false
set_option linter.unusedVariables false
set_option linter.unusedSectionVars false
set_option linter.unnecessarySimpa false
namespace Go.Proofs.YtofimkliemlojaaGreatDoor
namespace Vm
open Go Go.Vm Go.Vm.W
set_option maxRecDepth 100000
attribute [local irreducible] W WO SpecQ jsn
def mm0:jqk:=fun _ _=>none
theorem kkd {B:Base}:jjv Tryz.prog gl B mm0:=fun f az g h=>by cases h
noncomputable abbrev R0 (mx:Int) (n:Nat):=jsn (BB mx) mm0 prog n
noncomputable def jk9 (mx:Int):jqk:=jg7 (jq2 (R0 mx 3) 104 40 St.endsL) (jg7 (jue 42) (jg7 (kaj 101) (jg7 (kai 119) (jg7 (kak 48) (jg7 (jve 85) (jg7 (jve 86) (j1x Srt.ordL 51 52)))))))
theorem kgl (mx:Int):jjv Tryz.prog gl (BB mx) (jk9 mx):=
 jit (kdu (j4t kkd mixed ka2 3).1 ⟨Tryz.f104,Tryz.func104,by kernel_rfl,by kernel_rfl⟩ (fun L h=>by simp[St.endsL];omega) St.ends_c1 St.ends_c2)
 (jit (kds ⟨Tryz.f42,Tryz.func42,by kernel_rfl,by kernel_rfl⟩ Tryz.strings_Join_none Tryz.strings_Join)
 (jit (kgo ⟨Tryz.f101,Tryz.func101,by kernel_rfl,by kernel_rfl⟩ Tryz.bits_Len64)
 (jit (kgm ⟨Tryz.f119,Tryz.func119,by kernel_rfl,by kernel_rfl⟩ Tryz.internal_strconv_log10Pow2)
 (jit (kgq ⟨Tryz.f48,Tryz.func48,by kernel_rfl,by kernel_rfl⟩ InsC.ins_c InsC.ins_0 InsC.ins_00)
 (jit (j6j ⟨Tryz.f85,Tryz.func85,by kernel_rfl,by kernel_rfl⟩ Gw.zero85 Gw.grow85)
 (jit (j6j ⟨Tryz.f86,Tryz.func86,by kernel_rfl,by kernel_rfl⟩ Gw.zero86 Gw.grow86)
   (kdq ⟨Tryz.f51,Tryz.func51,by kernel_rfl,by kernel_rfl⟩ Srt.ord_ok Srt.none51 Srt.sorts)))))))
end Vm
end Go.Proofs.YtofimkliemlojaaGreatDoor
