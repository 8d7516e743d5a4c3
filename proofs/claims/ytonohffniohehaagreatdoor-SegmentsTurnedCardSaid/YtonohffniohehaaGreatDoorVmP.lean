/-
  The program's text for the machine. (Printed by a program.)
  The program's text for the machine. (Printed by a program.)
  The program's text for the machine. (Printed by a program.)
-/
import Derived.Test.YtonohffniohehaaGreatDoorRows
import Derived.Test.YtonohffniohehaaGreatDoorIt
set_option linter.unusedSimpArgs false
set_option linter.unusedVariables false
set_option linter.unusedSectionVars false
set_option linter.unnecessarySimpa false
namespace Go.Proofs.YtonohffniohehaaGreatDoor
namespace Vm
open Go Go.Vm Go.Vm.W
noncomputable section
set_option maxRecDepth 100000
def gl:List Nat:=[0,1,2,3,4,5,6,7,8,9]
def nx0:Nat:=12
def ex (mx:Int):List (Nat×List AV):=[(1,[(.int .i64 mx)]),(4,[(.ifc 250 (.ptr 10 0))]),(3,[(.ifc 250 (.ptr 11 0))])]
def es:List (Nat×List AV):=[(8,[(.int .u8 0),(.int .u8 1),(.int .u8 28),(.int .u8 2),(.int .u8 29),(.int .u8 14),(.int .u8 24),(.int .u8 3),(.int .u8 30),(.int .u8 22),(.int .u8 20),(.int .u8 15),(.int .u8 25),(.int .u8 17),(.int .u8 4),(.int .u8 8),(.int .u8 31),(.int .u8 27),(.int .u8 13),(.int .u8 23),(.int .u8 21),(.int .u8 19),(.int .u8 16),(.int .u8 7),(.int .u8 26),(.int .u8 12),(.int .u8 18),(.int .u8 6),(.int .u8 11),(.int .u8 5),(.int .u8 10),(.int .u8 9)]),(9,[(.int .u8 0),(.int .u8 1),(.int .u8 56),(.int .u8 2),(.int .u8 57),(.int .u8 49),(.int .u8 28),(.int .u8 3),(.int .u8 61),(.int .u8 58),(.int .u8 42),(.int .u8 50),(.int .u8 38),(.int .u8 29),(.int .u8 17),(.int .u8 4),(.int .u8 62),(.int .u8 47),(.int .u8 59),(.int .u8 36),(.int .u8 45),(.int .u8 43),(.int .u8 51),(.int .u8 22),(.int .u8 53),(.int .u8 39),(.int .u8 33),(.int .u8 30),(.int .u8 24),(.int .u8 18),(.int .u8 12),(.int .u8 5),(.int .u8 63),(.int .u8 55),(.int .u8 48),(.int .u8 27),(.int .u8 60),(.int .u8 41),(.int .u8 37),(.int .u8 16),(.int .u8 46),(.int .u8 35),(.int .u8 44),(.int .u8 21),(.int .u8 52),(.int .u8 32),(.int .u8 23),(.int .u8 11),(.int .u8 54),(.int .u8 26),(.int .u8 40),(.int .u8 15),(.int .u8 34),(.int .u8 20),(.int .u8 31),(.int .u8 10),(.int .u8 25),(.int .u8 14),(.int .u8 19),(.int .u8 9),(.int .u8 13),(.int .u8 8),(.int .u8 7),(.int .u8 6)]),(5,[(.int .u64 1),(.int .u64 10),(.int .u64 100),(.int .u64 1000),(.int .u64 10000),(.int .u64 100000),(.int .u64 1000000),(.int .u64 10000000),(.int .u64 100000000),(.int .u64 1000000000),(.int .u64 10000000000),(.int .u64 100000000000),(.int .u64 1000000000000),(.int .u64 10000000000000),(.int .u64 100000000000000),(.int .u64 1000000000000000),(.int .u64 10000000000000000),(.int .u64 100000000000000000),(.int .u64 1000000000000000000),(.int .u64 10000000000000000000)]),(7,[(.int .u8 128),(.int .u8 191),(.int .u8 160),(.int .u8 191),(.int .u8 128),(.int .u8 159),(.int .u8 144),(.int .u8 191),(.int .u8 128),(.int .u8 143),(.int .u8 0),(.int .u8 0),(.int .u8 0),(.int .u8 0),(.int .u8 0),(.int .u8 0),(.int .u8 0),(.int .u8 0),(.int .u8 0),(.int .u8 0),(.int .u8 0),(.int .u8 0),(.int .u8 0),(.int .u8 0),(.int .u8 0),(.int .u8 0),(.int .u8 0),(.int .u8 0),(.int .u8 0),(.int .u8 0),(.int .u8 0),(.int .u8 0)]),(2,[(.int .i64 0),(.int .i64 (-1)),(.int .u8 2),(.int .i64 0),(.int .i64 0),(.int .i64 (-1)),(.int .u8 2),(.int .i64 0),(.int .i64 0),(.int .u8 1),(.int .i64 0),(.int .i64 0),(.int .u8 3),(.int .i64 0),(.int .i64 0),(.int .i64 2),(.int .i64 0),(.int .i64 1),(.int .i64 0),(.int .u8 1),(.int .i64 1),(.int .i64 1),(.int .i64 0),(.int .u8 3),(.int .i64 0),(.int .i64 0),(.int .u8 0),(.int .i64 0),(.int .i64 0),(.int .u8 2),(.int .i64 2),(.int .i64 2),(.int .i64 2),(.int .i64 0),(.int .i64 0),(.int .i64 1),(.int .u8 2),(.int .i64 1),(.int .i64 0),(.int .i64 1),(.int .u8 0),(.int .i64 0),(.int .i64 0),(.int .u8 3),(.int .i64 0),(.int .i64 0),(.int .u8 1),(.int .i64 2),(.int .i64 2),(.int .i64 0),(.int .i64 2),(.int .i64 (-1)),(.int .i64 0),(.int .u8 1),(.int .i64 0),(.int .i64 (-1)),(.int .i64 0),(.int .u8 1),(.int .i64 0),(.int .i64 0),(.int .u8 2),(.int .i64 0),(.int .i64 0),(.int .u8 0),(.int .i64 0),(.int .i64 0),(.int .i64 0),(.int .i64 2)]),(0,[(.int .u8 0),(.int .u8 2),(.int .u8 1),(.int .u8 3)])]
def H0 (mx:Int):Tr Blk:=(.n (.n (.n (.n .e (some (.cells (.n (.n (.n (.n (.n (.n .e (some (.int .u8 0)) .e) (some (.int .u8 0)) .e) (some (.int .u8 191)) (.n .e (some (.int .u8 0)) .e)) (some (.int .u8 191)) (.n (.n .e (some (.int .u8 0)) .e) (some (.int .u8 0)) (.n .e (some (.int .u8 0)) .e))) (some (.int .u8 191)) (.n (.n (.n .e (some (.int .u8 0)) .e) (some (.int .u8 143)) (.n .e (some (.int .u8 0)) .e)) (some (.int .u8 159)) (.n (.n .e (some (.int .u8 0)) .e) (some (.int .u8 0)) (.n .e (some (.int .u8 0)) .e)))) (some (.int .u8 128)) (.n (.n (.n (.n .e (some (.int .u8 0)) .e) (some (.int .u8 128)) (.n .e (some (.int .u8 0)) .e)) (some (.int .u8 128)) (.n (.n .e (some (.int .u8 0)) .e) (some (.int .u8 0)) (.n .e (some (.int .u8 0)) .e))) (some (.int .u8 160)) (.n (.n (.n .e (some (.int .u8 0)) .e) (some (.int .u8 0)) (.n .e (some (.int .u8 0)) .e)) (some (.int .u8 144)) (.n (.n .e (some (.int .u8 0)) .e) (some (.int .u8 0)) (.n .e (some (.int .u8 0)) .e))))) 32)) .e) (some (.cells (.n .e (some (.ifc 250 (.ptr 11 0))) .e) 1)) .e) (some (.cells (.n .e (some (.int .i64 mx)) .e) 1)) (.n (.n .e (some (.cells (.n (.n (.n (.n (.n (.n (.n .e (some (.int .u8 6)) .e) (some (.int .u8 5)) .e) (some (.int .u8 4)) (.n .e (some (.int .u8 11)) .e)) (some (.int .u8 3)) (.n (.n .e (some (.int .u8 16)) .e) (some (.int .u8 22)) (.n .e (some (.int .u8 10)) .e))) (some (.int .u8 2)) (.n (.n (.n .e (some (.int .u8 27)) .e) (some (.int .u8 36)) (.n .e (some (.int .u8 15)) .e)) (some (.int .u8 50)) (.n (.n .e (some (.int .u8 21)) .e) (some (.int .u8 30)) (.n .e (some (.int .u8 9)) .e)))) (some (.int .u8 1)) (.n (.n (.n (.n .e (some (.int .u8 55)) .e) (some (.int .u8 47)) (.n .e (some (.int .u8 26)) .e)) (some (.int .u8 58)) (.n (.n .e (some (.int .u8 35)) .e) (some (.int .u8 39)) (.n .e (some (.int .u8 14)) .e))) (some (.int .u8 49)) (.n (.n (.n .e (some (.int .u8 41)) .e) (some (.int .u8 43)) (.n .e (some (.int .u8 20)) .e)) (some (.int .u8 29)) (.n (.n .e (some (.int .u8 32)) .e) (some (.int .u8 18)) (.n .e (some (.int .u8 8)) .e))))) (some (.int .u8 0)) (.n (.n (.n (.n (.n .e (some (.int .u8 63)) .e) (some (.int .u8 62)) (.n .e (some (.int .u8 54)) .e)) (some (.int .u8 61)) (.n (.n .e (some (.int .u8 46)) .e) (some (.int .u8 53)) (.n .e (some (.int .u8 25)) .e))) (some (.int .u8 57)) (.n (.n (.n .e (some (.int .u8 60)) .e) (some (.int .u8 45)) (.n .e (some (.int .u8 34)) .e)) (some (.int .u8 38)) (.n (.n .e (some (.int .u8 52)) .e) (some (.int .u8 24)) (.n .e (some (.int .u8 13)) .e)))) (some (.int .u8 56)) (.n (.n (.n (.n .e (some (.int .u8 48)) .e) (some (.int .u8 59)) (.n .e (some (.int .u8 40)) .e)) (some (.int .u8 42)) (.n (.n .e (some (.int .u8 44)) .e) (some (.int .u8 33)) (.n .e (some (.int .u8 19)) .e))) (some (.int .u8 28)) (.n (.n (.n .e (some (.int .u8 37)) .e) (some (.int .u8 51)) (.n .e (some (.int .u8 31)) .e)) (some (.int .u8 17)) (.n (.n .e (some (.int .u8 23)) .e) (some (.int .u8 12)) (.n .e (some (.int .u8 7)) .e)))))) 64)) .e) (some (.cells (.n (.n (.n (.n (.n .e (some (.int .u64 1000000000000000)) .e) (some (.int .u64 10000000)) .e) (some (.int .u64 1000)) (.n (.n .e (some (.int .u64 10000000000000000000)) .e) (some (.int .u64 100000000000)) .e)) (some (.int .u64 10)) (.n (.n (.n .e (some (.int .u64 100000000000000000)) .e) (some (.int .u64 1000000000)) .e) (some (.int .u64 100000)) (.n .e (some (.int .u64 10000000000000)) .e))) (some (.int .u64 1)) (.n (.n (.n (.n .e (some (.int .u64 10000000000000000)) .e) (some (.int .u64 100000000)) .e) (some (.int .u64 10000)) (.n .e (some (.int .u64 1000000000000)) .e)) (some (.int .u64 100)) (.n (.n (.n .e (some (.int .u64 1000000000000000000)) .e) (some (.int .u64 10000000000)) .e) (some (.int .u64 1000000)) (.n .e (some (.int .u64 100000000000000)) .e)))) 20)) .e)) (some (.cells (.n (.n (.n .e (some (.int .u8 3)) .e) (some (.int .u8 2)) .e) (some (.int .u8 0)) (.n .e (some (.int .u8 1)) .e)) 4)) (.n (.n (.n .e (some (.cells (.n (.n (.n (.n (.n (.n .e (some (.int .u8 9)) .e) (some (.int .u8 8)) .e) (some (.int .u8 3)) (.n .e (some (.int .u8 7)) .e)) (some (.int .u8 2)) (.n (.n .e (some (.int .u8 23)) .e) (some (.int .u8 15)) (.n .e (some (.int .u8 6)) .e))) (some (.int .u8 1)) (.n (.n (.n .e (some (.int .u8 27)) .e) (some (.int .u8 22)) (.n .e (some (.int .u8 12)) .e)) (some (.int .u8 14)) (.n (.n .e (some (.int .u8 19)) .e) (some (.int .u8 17)) (.n .e (some (.int .u8 5)) .e)))) (some (.int .u8 0)) (.n (.n (.n (.n .e (some (.int .u8 31)) .e) (some (.int .u8 30)) (.n .e (some (.int .u8 26)) .e)) (some (.int .u8 29)) (.n (.n .e (some (.int .u8 21)) .e) (some (.int .u8 25)) (.n .e (some (.int .u8 11)) .e))) (some (.int .u8 28)) (.n (.n (.n .e (some (.int .u8 13)) .e) (some (.int .u8 20)) (.n .e (some (.int .u8 18)) .e)) (some (.int .u8 24)) (.n (.n .e (some (.int .u8 16)) .e) (some (.int .u8 4)) (.n .e (some (.int .u8 10)) .e))))) 32)) .e) (some (.cells (.n .e (some (.ifc 250 (.ptr 10 0))) .e) 1)) .e) (some (.cells (.n (.n (.n (.n (.n (.n (.n .e (some (.int .u8 0)) .e) (some (.int .i64 2)) .e) (some (.int .i64 2)) (.n .e (some (.int .i64 2)) .e)) (some (.int .i64 0)) (.n (.n .e (some (.int .i64 1)) .e) (some (.int .u8 3)) (.n .e (some (.int .i64 (-1))) .e))) (some (.int .i64 0)) (.n (.n (.n (.n .e (some (.int .i64 2)) .e) (some (.int .i64 1)) .e) (some (.int .u8 1)) (.n .e (some (.int .i64 (-1))) .e)) (some (.int .i64 0)) (.n (.n .e (some (.int .u8 3)) .e) (some (.int .i64 0)) (.n .e (some (.int .i64 0)) .e)))) (some (.int .i64 (-1))) (.n (.n (.n (.n (.n .e (some (.int .i64 0)) .e) (some (.int .i64 0)) .e) (some (.int .i64 1)) (.n .e (some (.int .i64 0)) .e)) (some (.int .u8 1)) (.n (.n .e (some (.int .i64 0)) .e) (some (.int .i64 0)) (.n .e (some (.int .u8 1)) .e))) (some (.int .i64 (-1))) (.n (.n (.n .e (some (.int .i64 1)) .e) (some (.int .i64 1)) (.n .e (some (.int .u8 1)) .e)) (some (.int .i64 0)) (.n (.n .e (some (.int .i64 0)) .e) (some (.int .u8 2)) (.n .e (some (.int .i64 0)) .e))))) (some (.int .i64 0)) (.n (.n (.n (.n (.n (.n .e (some (.int .i64 0)) .e) (some (.int .i64 2)) .e) (some (.int .i64 0)) (.n .e (some (.int .i64 2)) .e)) (some (.int .i64 0)) (.n (.n .e (some (.int .u8 0)) .e) (some (.int .i64 0)) (.n .e (some (.int .i64 0)) .e))) (some (.int .i64 0)) (.n (.n (.n .e (some (.int .u8 2)) .e) (some (.int .i64 1)) (.n .e (some (.int .i64 0)) .e)) (some (.int .u8 3)) (.n (.n .e (some (.int .i64 0)) .e) (some (.int .i64 0)) (.n .e (some (.int .u8 2)) .e)))) (some (.int .u8 2)) (.n (.n (.n (.n (.n .e (some (.int .i64 0)) .e) (some (.int .i64 0)) .e) (some (.int .i64 0)) (.n .e (some (.int .i64 2)) .e)) (some (.int .i64 0)) (.n (.n .e (some (.int .i64 0)) .e) (some (.int .u8 0)) (.n .e (some (.int .i64 0)) .e))) (some (.int .u8 2)) (.n (.n (.n .e (some (.int .i64 0)) .e) (some (.int .i64 0)) (.n .e (some (.int .i64 0)) .e)) (some (.int .i64 0)) (.n (.n .e (some (.int .u8 1)) .e) (some (.int .i64 2)) (.n .e (some (.int .i64 0)) .e)))))) 68)) .e))
abbrev its:Its:=Go.Vm.X.itsL
theorem its_ok:ItsOK Tryz.prog gl its:=Go.Vm.X.itsL_ok
def laidS:List (String×DataW Unit):=(Rows.segmentsTurnedRow.laid.zipIdx.filter fun x=>[0,1,2,3,6,7].contains x.2).map (·.1)
theorem es_ok:entsOf Tryz.prog laidS=some es:=by kernel_rfl
theorem put_mx (mx:Int):put [.int .i64 mx] 0 .e=.n .e (some (.int .i64 mx)) .e:=by
 unfold put putK putK
 simp only[forceA_eq,Tr.setK_eq]
 rfl
theorem H0_eq (mx:Int):ofEnts (ex mx++es)=H0 mx:=by
 show Tr.set (ofEnts ((ex mx).tail++es)) 1 (.cells (put [.int .i64 mx] 0 .e) 1)=H0 mx
 rw[put_mx]
 kernel_rfl
def BB (mx:Int):Base:=⟨H0 mx,nx0⟩
theorem BB_wf (mx:Int):WF (BB mx).H0 (BB mx).nx0:=by
 show WF (H0 mx) nx0
 rw[←H0_eq]
 exact WF_ents (by kernel_rfl)
theorem mixed:Tryz.prog.follows .mixedOrders=true:=by kernel_rfl
end
end Vm
end Go.Proofs.YtonohffniohehaaGreatDoor
namespace Go.Proofs.YtonohffniohehaaGreatDoor
namespace Vm
open Go Go.Vm Go.Vm.W
noncomputable section
set_option maxRecDepth 100000
noncomputable def k8:CFn:=gk (cfn Tryz.prog gl Tryz.f8)
theorem k8_ok:cfn Tryz.prog gl Tryz.f8=some k8:=gk_ok (by kernel_rfl)
noncomputable def k11:CFn:=gk (cfn Tryz.prog gl Tryz.f11)
theorem k11_ok:cfn Tryz.prog gl Tryz.f11=some k11:=gk_ok (by kernel_rfl)
noncomputable def k12:CFn:=gk (cfn Tryz.prog gl Tryz.f12)
theorem k12_ok:cfn Tryz.prog gl Tryz.f12=some k12:=gk_ok (by kernel_rfl)
noncomputable def k13:CFn:=gk (cfn Tryz.prog gl Tryz.f13)
theorem k13_ok:cfn Tryz.prog gl Tryz.f13=some k13:=gk_ok (by kernel_rfl)
noncomputable def k15:CFn:=gk (cfn Tryz.prog gl Tryz.f15)
theorem k15_ok:cfn Tryz.prog gl Tryz.f15=some k15:=gk_ok (by kernel_rfl)
noncomputable def k16:CFn:=gk (cfn Tryz.prog gl Tryz.f16)
theorem k16_ok:cfn Tryz.prog gl Tryz.f16=some k16:=gk_ok (by kernel_rfl)
noncomputable def k18:CFn:=gk (cfn Tryz.prog gl Tryz.f18)
theorem k18_ok:cfn Tryz.prog gl Tryz.f18=some k18:=gk_ok (by kernel_rfl)
noncomputable def k26:CFn:=gk (cfn Tryz.prog gl Tryz.f26)
theorem k26_ok:cfn Tryz.prog gl Tryz.f26=some k26:=gk_ok (by kernel_rfl)
noncomputable def k27:CFn:=gk (cfn Tryz.prog gl Tryz.f27)
theorem k27_ok:cfn Tryz.prog gl Tryz.f27=some k27:=gk_ok (by kernel_rfl)
noncomputable def k28:CFn:=gk (cfn Tryz.prog gl Tryz.f28)
theorem k28_ok:cfn Tryz.prog gl Tryz.f28=some k28:=gk_ok (by kernel_rfl)
noncomputable def k29:CFn:=gk (cfn Tryz.prog gl Tryz.f29)
theorem k29_ok:cfn Tryz.prog gl Tryz.f29=some k29:=gk_ok (by kernel_rfl)
noncomputable def k30:CFn:=gk (cfn Tryz.prog gl Tryz.f30)
theorem k30_ok:cfn Tryz.prog gl Tryz.f30=some k30:=gk_ok (by kernel_rfl)
noncomputable def k31:CFn:=gk (cfn Tryz.prog gl Tryz.f31)
theorem k31_ok:cfn Tryz.prog gl Tryz.f31=some k31:=gk_ok (by kernel_rfl)
noncomputable def k32:CFn:=gk (cfn Tryz.prog gl Tryz.f32)
theorem k32_ok:cfn Tryz.prog gl Tryz.f32=some k32:=gk_ok (by kernel_rfl)
noncomputable def k33:CFn:=gk (cfn Tryz.prog gl Tryz.f33)
theorem k33_ok:cfn Tryz.prog gl Tryz.f33=some k33:=gk_ok (by kernel_rfl)
noncomputable def k34:CFn:=gk (cfn Tryz.prog gl Tryz.f34)
theorem k34_ok:cfn Tryz.prog gl Tryz.f34=some k34:=gk_ok (by kernel_rfl)
noncomputable def k36:CFn:=gk (cfn Tryz.prog gl Tryz.f36)
theorem k36_ok:cfn Tryz.prog gl Tryz.f36=some k36:=gk_ok (by kernel_rfl)
noncomputable def k37:CFn:=gk (cfn Tryz.prog gl Tryz.f37)
theorem k37_ok:cfn Tryz.prog gl Tryz.f37=some k37:=gk_ok (by kernel_rfl)
noncomputable def k38:CFn:=gk (cfn Tryz.prog gl Tryz.f38)
theorem k38_ok:cfn Tryz.prog gl Tryz.f38=some k38:=gk_ok (by kernel_rfl)
noncomputable def k40:CFn:=gk (cfn Tryz.prog gl Tryz.f40)
theorem k40_ok:cfn Tryz.prog gl Tryz.f40=some k40:=gk_ok (by kernel_rfl)
noncomputable def k41:CFn:=gk (cfn Tryz.prog gl Tryz.f41)
theorem k41_ok:cfn Tryz.prog gl Tryz.f41=some k41:=gk_ok (by kernel_rfl)
noncomputable def k42:CFn:=gk (cfn Tryz.prog gl Tryz.f42)
theorem k42_ok:cfn Tryz.prog gl Tryz.f42=some k42:=gk_ok (by kernel_rfl)
noncomputable def k45:CFn:=gk (cfn Tryz.prog gl Tryz.f45)
theorem k45_ok:cfn Tryz.prog gl Tryz.f45=some k45:=gk_ok (by kernel_rfl)
noncomputable def k46:CFn:=gk (cfn Tryz.prog gl Tryz.f46)
theorem k46_ok:cfn Tryz.prog gl Tryz.f46=some k46:=gk_ok (by kernel_rfl)
noncomputable def k47:CFn:=gk (cfn Tryz.prog gl Tryz.f47)
theorem k47_ok:cfn Tryz.prog gl Tryz.f47=some k47:=gk_ok (by kernel_rfl)
noncomputable def k55:CFn:=gk (cfn Tryz.prog gl Tryz.f55)
theorem k55_ok:cfn Tryz.prog gl Tryz.f55=some k55:=gk_ok (by kernel_rfl)
noncomputable def k56:CFn:=gk (cfn Tryz.prog gl Tryz.f56)
theorem k56_ok:cfn Tryz.prog gl Tryz.f56=some k56:=gk_ok (by kernel_rfl)
noncomputable def k57:CFn:=gk (cfn Tryz.prog gl Tryz.f57)
theorem k57_ok:cfn Tryz.prog gl Tryz.f57=some k57:=gk_ok (by kernel_rfl)
noncomputable def k58:CFn:=gk (cfn Tryz.prog gl Tryz.f58)
theorem k58_ok:cfn Tryz.prog gl Tryz.f58=some k58:=gk_ok (by kernel_rfl)
noncomputable def k59:CFn:=gk (cfn Tryz.prog gl Tryz.f59 its)
theorem k59_ok:cfn Tryz.prog gl Tryz.f59 its=some k59:=gk_ok (by kernel_rfl)
noncomputable def k60:CFn:=gk (cfn Tryz.prog gl Tryz.f60)
theorem k60_ok:cfn Tryz.prog gl Tryz.f60=some k60:=gk_ok (by kernel_rfl)
noncomputable def k61:CFn:=gk (cfn Tryz.prog gl Tryz.f61)
theorem k61_ok:cfn Tryz.prog gl Tryz.f61=some k61:=gk_ok (by kernel_rfl)
noncomputable def k62:CFn:=gk (cfn Tryz.prog gl Tryz.f62)
theorem k62_ok:cfn Tryz.prog gl Tryz.f62=some k62:=gk_ok (by kernel_rfl)
noncomputable def k63:CFn:=gk (cfn Tryz.prog gl Tryz.f63)
theorem k63_ok:cfn Tryz.prog gl Tryz.f63=some k63:=gk_ok (by kernel_rfl)
noncomputable def k64:CFn:=gk (cfn Tryz.prog gl Tryz.f64)
theorem k64_ok:cfn Tryz.prog gl Tryz.f64=some k64:=gk_ok (by kernel_rfl)
noncomputable def k65:CFn:=gk (cfn Tryz.prog gl Tryz.f65)
theorem k65_ok:cfn Tryz.prog gl Tryz.f65=some k65:=gk_ok (by kernel_rfl)
noncomputable def k66:CFn:=gk (cfn Tryz.prog gl Tryz.f66)
theorem k66_ok:cfn Tryz.prog gl Tryz.f66=some k66:=gk_ok (by kernel_rfl)
noncomputable def k67:CFn:=gk (cfn Tryz.prog gl Tryz.f67)
theorem k67_ok:cfn Tryz.prog gl Tryz.f67=some k67:=gk_ok (by kernel_rfl)
noncomputable def k68:CFn:=gk (cfn Tryz.prog gl Tryz.f68)
theorem k68_ok:cfn Tryz.prog gl Tryz.f68=some k68:=gk_ok (by kernel_rfl)
noncomputable def k69:CFn:=gk (cfn Tryz.prog gl Tryz.f69)
theorem k69_ok:cfn Tryz.prog gl Tryz.f69=some k69:=gk_ok (by kernel_rfl)
noncomputable def k70:CFn:=gk (cfn Tryz.prog gl Tryz.f70)
theorem k70_ok:cfn Tryz.prog gl Tryz.f70=some k70:=gk_ok (by kernel_rfl)
noncomputable def k71:CFn:=gk (cfn Tryz.prog gl Tryz.f71)
theorem k71_ok:cfn Tryz.prog gl Tryz.f71=some k71:=gk_ok (by kernel_rfl)
noncomputable def k72:CFn:=gk (cfn Tryz.prog gl Tryz.f72)
theorem k72_ok:cfn Tryz.prog gl Tryz.f72=some k72:=gk_ok (by kernel_rfl)
noncomputable def k75:CFn:=gk (cfn Tryz.prog gl Tryz.f75)
theorem k75_ok:cfn Tryz.prog gl Tryz.f75=some k75:=gk_ok (by kernel_rfl)
noncomputable def k77:CFn:=gk (cfn Tryz.prog gl Tryz.f77)
theorem k77_ok:cfn Tryz.prog gl Tryz.f77=some k77:=gk_ok (by kernel_rfl)
noncomputable def k84:CFn:=gk (cfn Tryz.prog gl Tryz.f84)
theorem k84_ok:cfn Tryz.prog gl Tryz.f84=some k84:=gk_ok (by kernel_rfl)
noncomputable def k85:CFn:=gk (cfn Tryz.prog gl Tryz.f85)
theorem k85_ok:cfn Tryz.prog gl Tryz.f85=some k85:=gk_ok (by kernel_rfl)
noncomputable def k86:CFn:=gk (cfn Tryz.prog gl Tryz.f86)
theorem k86_ok:cfn Tryz.prog gl Tryz.f86=some k86:=gk_ok (by kernel_rfl)
noncomputable def k87:CFn:=gk (cfn Tryz.prog gl Tryz.f87)
theorem k87_ok:cfn Tryz.prog gl Tryz.f87=some k87:=gk_ok (by kernel_rfl)
noncomputable def k88:CFn:=gk (cfn Tryz.prog gl Tryz.f88)
theorem k88_ok:cfn Tryz.prog gl Tryz.f88=some k88:=gk_ok (by kernel_rfl)
noncomputable def k89:CFn:=gk (cfn Tryz.prog gl Tryz.f89)
theorem k89_ok:cfn Tryz.prog gl Tryz.f89=some k89:=gk_ok (by kernel_rfl)
noncomputable def k90:CFn:=gk (cfn Tryz.prog gl Tryz.f90)
theorem k90_ok:cfn Tryz.prog gl Tryz.f90=some k90:=gk_ok (by kernel_rfl)
noncomputable def k91:CFn:=gk (cfn Tryz.prog gl Tryz.f91)
theorem k91_ok:cfn Tryz.prog gl Tryz.f91=some k91:=gk_ok (by kernel_rfl)
noncomputable def k92:CFn:=gk (cfn Tryz.prog gl Tryz.f92)
theorem k92_ok:cfn Tryz.prog gl Tryz.f92=some k92:=gk_ok (by kernel_rfl)
noncomputable def k93:CFn:=gk (cfn Tryz.prog gl Tryz.f93)
theorem k93_ok:cfn Tryz.prog gl Tryz.f93=some k93:=gk_ok (by kernel_rfl)
noncomputable def k94:CFn:=gk (cfn Tryz.prog gl Tryz.f94)
theorem k94_ok:cfn Tryz.prog gl Tryz.f94=some k94:=gk_ok (by kernel_rfl)
noncomputable def k105:CFn:=gk (cfn Tryz.prog gl Tryz.f105)
theorem k105_ok:cfn Tryz.prog gl Tryz.f105=some k105:=gk_ok (by kernel_rfl)
noncomputable def k114:CFn:=gk (cfn Tryz.prog gl Tryz.f114)
theorem k114_ok:cfn Tryz.prog gl Tryz.f114=some k114:=gk_ok (by kernel_rfl)
noncomputable def k128:CFn:=gk (cfn Tryz.prog gl Tryz.f128)
theorem k128_ok:cfn Tryz.prog gl Tryz.f128=some k128:=gk_ok (by kernel_rfl)
noncomputable def k129:CFn:=gk (cfn Tryz.prog gl Tryz.f129)
theorem k129_ok:cfn Tryz.prog gl Tryz.f129=some k129:=gk_ok (by kernel_rfl)
noncomputable def k130:CFn:=gk (cfn Tryz.prog gl Tryz.f130)
theorem k130_ok:cfn Tryz.prog gl Tryz.f130=some k130:=gk_ok (by kernel_rfl)
noncomputable def k131:CFn:=gk (cfn Tryz.prog gl Tryz.f131)
theorem k131_ok:cfn Tryz.prog gl Tryz.f131=some k131:=gk_ok (by kernel_rfl)
noncomputable def k132:CFn:=gk (cfn Tryz.prog gl Tryz.f132)
theorem k132_ok:cfn Tryz.prog gl Tryz.f132=some k132:=gk_ok (by kernel_rfl)
noncomputable def k133:CFn:=gk (cfn Tryz.prog gl Tryz.f133)
theorem k133_ok:cfn Tryz.prog gl Tryz.f133=some k133:=gk_ok (by kernel_rfl)
noncomputable def k134:CFn:=gk (cfn Tryz.prog gl Tryz.f134)
theorem k134_ok:cfn Tryz.prog gl Tryz.f134=some k134:=gk_ok (by kernel_rfl)
noncomputable def k135:CFn:=gk (cfn Tryz.prog gl Tryz.f135)
theorem k135_ok:cfn Tryz.prog gl Tryz.f135=some k135:=gk_ok (by kernel_rfl)
noncomputable def k136:CFn:=gk (cfn Tryz.prog gl Tryz.f136)
theorem k136_ok:cfn Tryz.prog gl Tryz.f136=some k136:=gk_ok (by kernel_rfl)
noncomputable def k137:CFn:=gk (cfn Tryz.prog gl Tryz.f137)
theorem k137_ok:cfn Tryz.prog gl Tryz.f137=some k137:=gk_ok (by kernel_rfl)
noncomputable def k154:CFn:=gk (cfn Tryz.prog gl Tryz.f154)
theorem k154_ok:cfn Tryz.prog gl Tryz.f154=some k154:=gk_ok (by kernel_rfl)
noncomputable def k155:CFn:=gk (cfn Tryz.prog gl Tryz.f155)
theorem k155_ok:cfn Tryz.prog gl Tryz.f155=some k155:=gk_ok (by kernel_rfl)
noncomputable def k156:CFn:=gk (cfn Tryz.prog gl Tryz.f156)
theorem k156_ok:cfn Tryz.prog gl Tryz.f156=some k156:=gk_ok (by kernel_rfl)
noncomputable def k157:CFn:=gk (cfn Tryz.prog gl Tryz.f157)
theorem k157_ok:cfn Tryz.prog gl Tryz.f157=some k157:=gk_ok (by kernel_rfl)
noncomputable def k158:CFn:=gk (cfn Tryz.prog gl Tryz.f158)
theorem k158_ok:cfn Tryz.prog gl Tryz.f158=some k158:=gk_ok (by kernel_rfl)
noncomputable def k159:CFn:=gk (cfn Tryz.prog gl Tryz.f159)
theorem k159_ok:cfn Tryz.prog gl Tryz.f159=some k159:=gk_ok (by kernel_rfl)
noncomputable def k166:CFn:=gk (cfn Tryz.prog gl Tryz.f166)
theorem k166_ok:cfn Tryz.prog gl Tryz.f166=some k166:=gk_ok (by kernel_rfl)
noncomputable def k167:CFn:=gk (cfn Tryz.prog gl Tryz.f167)
theorem k167_ok:cfn Tryz.prog gl Tryz.f167=some k167:=gk_ok (by kernel_rfl)
noncomputable def k168:CFn:=gk (cfn Tryz.prog gl Tryz.f168)
theorem k168_ok:cfn Tryz.prog gl Tryz.f168=some k168:=gk_ok (by kernel_rfl)
noncomputable def k169:CFn:=gk (cfn Tryz.prog gl Tryz.f169)
theorem k169_ok:cfn Tryz.prog gl Tryz.f169=some k169:=gk_ok (by kernel_rfl)
noncomputable def k170:CFn:=gk (cfn Tryz.prog gl Tryz.f170)
theorem k170_ok:cfn Tryz.prog gl Tryz.f170=some k170:=gk_ok (by kernel_rfl)
end
end Vm
end Go.Proofs.YtonohffniohehaaGreatDoor
namespace Go.Proofs.YtonohffniohehaaGreatDoor
namespace Vm
open Go Go.Vm Go.Vm.W
noncomputable section
set_option maxRecDepth 100000
attribute [local irreducible] k8 k11 k12 k13 k15 k16 k18 k26 k27 k28 k29 k30 k31 k32 k33 k34 k36 k37 k38 k40 k41 k42 k45 k46 k47 k55 k56 k57 k58 k59 k60 k61 k62 k63 k64 k65 k66 k67 k68 k69 k70 k71 k72 k75 k77 k84 k85 k86 k87 k88 k89 k90 k91 k92 k93 k94 k105 k114 k128 k129 k130 k131 k132 k133 k134 k135 k136 k137 k154 k155 k156 k157 k158 k159 k166 k167 k168 k169 k170
def prog:Tr CFn:=(.n (.n (.n (.n (.n (.n (.n .e (some k63) .e) (some k31) (.n (.n .e (some k159) .e) none .e)) (some k15) (.n .e (some k47) .e)) none (.n (.n (.n (.n .e (some k135) .e) (some k71) .e) none (.n (.n .e (some k167) .e) none .e)) none (.n (.n .e (some k87) .e) (some k55) .e))) none (.n (.n (.n (.n (.n .e (some k131) .e) (some k67) .e) none .e) none .e) (some k11) (.n (.n (.n .e (some k75) .e) none .e) (some k27) (.n (.n (.n .e (some k155) .e) (some k91) .e) (some k59) .e)))) none (.n (.n (.n (.n (.n (.n .e (some k129) .e) (some k65) .e) (some k33) .e) none .e) none (.n (.n (.n (.n .e (some k137) .e) none .e) (some k41) (.n (.n .e (some k169) .e) (some k105) .e)) none (.n (.n .e (some k89) .e) (some k57) .e))) none (.n (.n (.n (.n (.n .e (some k133) .e) (some k69) .e) (some k37) .e) none (.n (.n .e (some k85) .e) none .e)) (some k13) (.n (.n (.n .e (some k77) .e) (some k45) .e) (some k29) (.n (.n (.n .e (some k157) .e) (some k93) .e) (some k61) .e))))) none (.n (.n (.n (.n (.n (.n (.n .e (some k128) .e) (some k64) .e) (some k32) .e) (some k16) .e) (some k8) (.n (.n (.n (.n .e (some k136) .e) (some k72) .e) (some k40) (.n (.n .e (some k168) .e) none .e)) none (.n (.n .e (some k88) .e) (some k56) .e))) none (.n (.n (.n (.n (.n .e (some k132) .e) (some k68) .e) (some k36) .e) none (.n (.n .e (some k84) .e) none .e)) (some k12) (.n .e (some k28) (.n (.n (.n .e (some k156) .e) (some k92) .e) (some k60) .e)))) none (.n (.n (.n (.n (.n (.n .e (some k130) .e) (some k66) .e) (some k34) .e) (some k18) (.n .e none (.n .e (some k114) .e))) none (.n (.n .e (some k42) (.n (.n .e (some k170) .e) none .e)) (some k26) (.n (.n (.n .e (some k154) .e) (some k90) .e) (some k58) .e))) none (.n (.n (.n (.n (.n .e (some k134) .e) (some k70) .e) (some k38) (.n (.n .e (some k166) .e) none .e)) none (.n (.n .e (some k86) .e) none .e)) none (.n (.n .e (some k46) .e) (some k30) (.n (.n (.n .e (some k158) .e) (some k94) .e) (some k62) .e))))))
def kl:List (Nat×CFn):=[(8,k8),(11,k11),(12,k12),(13,k13),(15,k15),(16,k16),(18,k18),(26,k26),(27,k27),(28,k28),(29,k29),(30,k30),(31,k31),(32,k32),(33,k33),(34,k34),(36,k36),(37,k37),(38,k38),(40,k40),(41,k41),(42,k42),(45,k45),(46,k46),(47,k47),(55,k55),(56,k56),(57,k57),(58,k58),(59,k59),(60,k60),(61,k61),(62,k62),(63,k63),(64,k64),(65,k65),(66,k66),(67,k67),(68,k68),(69,k69),(70,k70),(71,k71),(72,k72),(75,k75),(77,k77),(84,k84),(85,k85),(86,k86),(87,k87),(88,k88),(89,k89),(90,k90),(91,k91),(92,k92),(93,k93),(94,k94),(105,k105),(114,k114),(128,k128),(129,k129),(130,k130),(131,k131),(132,k132),(133,k133),(134,k134),(135,k135),(136,k136),(137,k137),(154,k154),(155,k155),(156,k156),(157,k157),(158,k158),(159,k159),(166,k166),(167,k167),(168,k168),(169,k169),(170,k170)]
theorem kl_ok:AllK Tryz.prog gl its kl:=⟨⟨Tryz.f8,Tryz.func8,.inl k8_ok⟩,⟨Tryz.f11,Tryz.func11,.inl k11_ok⟩,⟨Tryz.f12,Tryz.func12,.inl k12_ok⟩,⟨Tryz.f13,Tryz.func13,.inl k13_ok⟩,⟨Tryz.f15,Tryz.func15,.inl k15_ok⟩,⟨Tryz.f16,Tryz.func16,.inl k16_ok⟩,⟨Tryz.f18,Tryz.func18,.inl k18_ok⟩,⟨Tryz.f26,Tryz.func26,.inl k26_ok⟩,⟨Tryz.f27,Tryz.func27,.inl k27_ok⟩,⟨Tryz.f28,Tryz.func28,.inl k28_ok⟩,⟨Tryz.f29,Tryz.func29,.inl k29_ok⟩,⟨Tryz.f30,Tryz.func30,.inl k30_ok⟩,⟨Tryz.f31,Tryz.func31,.inl k31_ok⟩,⟨Tryz.f32,Tryz.func32,.inl k32_ok⟩,⟨Tryz.f33,Tryz.func33,.inl k33_ok⟩,⟨Tryz.f34,Tryz.func34,.inl k34_ok⟩,⟨Tryz.f36,Tryz.func36,.inl k36_ok⟩,⟨Tryz.f37,Tryz.func37,.inl k37_ok⟩,⟨Tryz.f38,Tryz.func38,.inl k38_ok⟩,⟨Tryz.f40,Tryz.func40,.inl k40_ok⟩,⟨Tryz.f41,Tryz.func41,.inl k41_ok⟩,⟨Tryz.f42,Tryz.func42,.inl k42_ok⟩,⟨Tryz.f45,Tryz.func45,.inl k45_ok⟩,⟨Tryz.f46,Tryz.func46,.inl k46_ok⟩,⟨Tryz.f47,Tryz.func47,.inl k47_ok⟩,⟨Tryz.f55,Tryz.func55,.inl k55_ok⟩,⟨Tryz.f56,Tryz.func56,.inl k56_ok⟩,⟨Tryz.f57,Tryz.func57,.inl k57_ok⟩,⟨Tryz.f58,Tryz.func58,.inl k58_ok⟩,⟨Tryz.f59,Tryz.func59,.inr (.inl k59_ok)⟩,⟨Tryz.f60,Tryz.func60,.inl k60_ok⟩,⟨Tryz.f61,Tryz.func61,.inl k61_ok⟩,⟨Tryz.f62,Tryz.func62,.inl k62_ok⟩,⟨Tryz.f63,Tryz.func63,.inl k63_ok⟩,⟨Tryz.f64,Tryz.func64,.inl k64_ok⟩,⟨Tryz.f65,Tryz.func65,.inl k65_ok⟩,⟨Tryz.f66,Tryz.func66,.inl k66_ok⟩,⟨Tryz.f67,Tryz.func67,.inl k67_ok⟩,⟨Tryz.f68,Tryz.func68,.inl k68_ok⟩,⟨Tryz.f69,Tryz.func69,.inl k69_ok⟩,⟨Tryz.f70,Tryz.func70,.inl k70_ok⟩,⟨Tryz.f71,Tryz.func71,.inl k71_ok⟩,⟨Tryz.f72,Tryz.func72,.inl k72_ok⟩,⟨Tryz.f75,Tryz.func75,.inl k75_ok⟩,⟨Tryz.f77,Tryz.func77,.inl k77_ok⟩,⟨Tryz.f84,Tryz.func84,.inl k84_ok⟩,⟨Tryz.f85,Tryz.func85,.inl k85_ok⟩,⟨Tryz.f86,Tryz.func86,.inl k86_ok⟩,⟨Tryz.f87,Tryz.func87,.inl k87_ok⟩,⟨Tryz.f88,Tryz.func88,.inl k88_ok⟩,⟨Tryz.f89,Tryz.func89,.inl k89_ok⟩,⟨Tryz.f90,Tryz.func90,.inl k90_ok⟩,⟨Tryz.f91,Tryz.func91,.inl k91_ok⟩,⟨Tryz.f92,Tryz.func92,.inl k92_ok⟩,⟨Tryz.f93,Tryz.func93,.inl k93_ok⟩,⟨Tryz.f94,Tryz.func94,.inl k94_ok⟩,⟨Tryz.f105,Tryz.func105,.inl k105_ok⟩,⟨Tryz.f114,Tryz.func114,.inl k114_ok⟩,⟨Tryz.f128,Tryz.func128,.inl k128_ok⟩,⟨Tryz.f129,Tryz.func129,.inl k129_ok⟩,⟨Tryz.f130,Tryz.func130,.inl k130_ok⟩,⟨Tryz.f131,Tryz.func131,.inl k131_ok⟩,⟨Tryz.f132,Tryz.func132,.inl k132_ok⟩,⟨Tryz.f133,Tryz.func133,.inl k133_ok⟩,⟨Tryz.f134,Tryz.func134,.inl k134_ok⟩,⟨Tryz.f135,Tryz.func135,.inl k135_ok⟩,⟨Tryz.f136,Tryz.func136,.inl k136_ok⟩,⟨Tryz.f137,Tryz.func137,.inl k137_ok⟩,⟨Tryz.f154,Tryz.func154,.inl k154_ok⟩,⟨Tryz.f155,Tryz.func155,.inl k155_ok⟩,⟨Tryz.f156,Tryz.func156,.inl k156_ok⟩,⟨Tryz.f157,Tryz.func157,.inl k157_ok⟩,⟨Tryz.f158,Tryz.func158,.inl k158_ok⟩,⟨Tryz.f159,Tryz.func159,.inl k159_ok⟩,⟨Tryz.f166,Tryz.func166,.inl k166_ok⟩,⟨Tryz.f167,Tryz.func167,.inl k167_ok⟩,⟨Tryz.f168,Tryz.func168,.inl k168_ok⟩,⟨Tryz.f169,Tryz.func169,.inl k169_ok⟩,⟨Tryz.f170,Tryz.func170,.inl k170_ok⟩,trivial⟩
theorem prog_eq:prog=ofK kl:=by kernel_rfl
theorem prog_ok:ProgOK Tryz.prog gl prog:=prog_eq▸progOK_of its_ok kl_ok
end
end Vm
end Go.Proofs.YtonohffniohehaaGreatDoor
