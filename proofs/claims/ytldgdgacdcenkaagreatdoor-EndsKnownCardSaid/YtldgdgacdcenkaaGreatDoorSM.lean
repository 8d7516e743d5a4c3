/-
  Strips: the ja0 functions of the chapter.
-/
import Derived.Test.YtldgdgacdcenkaaGreatDoorVmP
import Derived.Test.YtldgdgacdcenkaaGreatDoorVmWU
import Derived.Test.YtldgdgacdcenkaaGreatDoorSt
import Derived.Test.YtldgdgacdcenkaaGreatDoorRep
set_option linter.unusedSimpArgs false
set_option linter.unusedVariables false
namespace Go.Proofs.YtldgdgacdcenkaaGreatDoor
namespace Vm
open Go Go.Vm Go.Vm.W
set_option maxRecDepth 100000
attribute [local irreducible] W WO SpecQ jt5
def mm0:jlz:=fun _ _=>none
theorem kcz {B:Base}:jfc Tryz.prog gl B mm0:=fun f az g h=>by cases h
noncomputable abbrev R0 (mx:Int) (n:Nat):=jt5 (BB mx) mm0 prog n
noncomputable def ja0 (mx:Int):jlz:=jdi (jjd (R0 mx 3) 73 41 St.endsL) (jdi (jje 68 133) (jdi (jfo 66) (jdi (jne 50) (jdi (j2r 109) (jdi (j2q 108) (jdi (j6d 61) (jdi (j6a 62) (jdi (job 64) (job 65)))))))))
theorem j9a (mx:Int):jfc Tryz.prog gl (BB mx) (ja0 mx):=
 jea (j6f (jww kcz mixed j3b 3).1 ⟨Tryz.f73,Tryz.func73,by kernel_rfl,by kernel_rfl⟩ (fun L h=>by simp[St.endsL];omega) St.ends_c1 St.ends_c2)
 (jea (j6h ⟨Tryz.f68,Tryz.func68,by kernel_rfl,by kernel_rfl⟩ (gs:=2) (gr:=3) rfl rfl (by kernel_rfl) (by kernel_rfl) Tryz.strconv_Atoi_ok Tryz.strconv_Atoi_syntax Tryz.strconv_Atoi_range)
 (jea (j2o ⟨Tryz.f66,Tryz.func66,by kernel_rfl,by kernel_rfl⟩ (g1:=5) rfl (by kernel_rfl) Tryz.strings_Split)
 (jea (j6b ⟨Tryz.f50,Tryz.func50,by kernel_rfl,by kernel_rfl⟩ Tryz.strings_Join_none Tryz.strings_Join)
 (jea (j9f ⟨Tryz.f109,Tryz.func109,by kernel_rfl,by kernel_rfl⟩ Tryz.bits_Len64)
 (jea (j9d ⟨Tryz.f108,Tryz.func108,by kernel_rfl,by kernel_rfl⟩ Tryz.internal_strconv_log10Pow2)
 (jea (j9h ⟨Tryz.f61,Tryz.func61,by kernel_rfl,by kernel_rfl⟩ InsC.ins_c InsC.ins_0)
 (jea (j9b ⟨Tryz.f62,Tryz.func62,by kernel_rfl,by kernel_rfl⟩ InsC.rep_c)
 (jea (jyn ⟨Tryz.f64,Tryz.func64,by kernel_rfl,by kernel_rfl⟩ Gw.zero64 Gw.grow64)
   (jyn ⟨Tryz.f65,Tryz.func65,by kernel_rfl,by kernel_rfl⟩ Gw.zero65 Gw.grow65)))))))))
end Vm
end Go.Proofs.YtldgdgacdcenkaaGreatDoor
