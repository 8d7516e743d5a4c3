/-
  The program's text for the machine. (Printed by a program.)
  The program's text for the machine. (Printed by a program.)
  The program's text for the machine. (Printed by a program.)
-/
import Derived.Test.YtccefhabickfiaaGreatDoorRows
import Derived.Test.YtccefhabickfiaaGreatDoorIt
set_option linter.unusedSimpArgs false
set_option linter.unusedVariables false
set_option linter.unusedSectionVars false
set_option linter.unnecessarySimpa false
namespace Go.Proofs.YtccefhabickfiaaGreatDoor
namespace Vm
open Go Go.Vm Go.Vm.W
noncomputable section
set_option maxRecDepth 100000
def gl:List Nat:=[0,1,2,3,4,5,6,7,8]
def nx0:Nat:=11
def ex (mx:Int):List (Nat×List AV):=[(0,[(.int .i64 mx)]),(4,[(.ifc 273 (.ptr 9 0))]),(3,[(.ifc 273 (.ptr 10 0))])]
def es:List (Nat×List AV):=[(5,[(.int .u8 0),(.int .u8 1),(.int .u8 28),(.int .u8 2),(.int .u8 29),(.int .u8 14),(.int .u8 24),(.int .u8 3),(.int .u8 30),(.int .u8 22),(.int .u8 20),(.int .u8 15),(.int .u8 25),(.int .u8 17),(.int .u8 4),(.int .u8 8),(.int .u8 31),(.int .u8 27),(.int .u8 13),(.int .u8 23),(.int .u8 21),(.int .u8 19),(.int .u8 16),(.int .u8 7),(.int .u8 26),(.int .u8 12),(.int .u8 18),(.int .u8 6),(.int .u8 11),(.int .u8 5),(.int .u8 10),(.int .u8 9)]),(6,[(.int .u8 0),(.int .u8 1),(.int .u8 56),(.int .u8 2),(.int .u8 57),(.int .u8 49),(.int .u8 28),(.int .u8 3),(.int .u8 61),(.int .u8 58),(.int .u8 42),(.int .u8 50),(.int .u8 38),(.int .u8 29),(.int .u8 17),(.int .u8 4),(.int .u8 62),(.int .u8 47),(.int .u8 59),(.int .u8 36),(.int .u8 45),(.int .u8 43),(.int .u8 51),(.int .u8 22),(.int .u8 53),(.int .u8 39),(.int .u8 33),(.int .u8 30),(.int .u8 24),(.int .u8 18),(.int .u8 12),(.int .u8 5),(.int .u8 63),(.int .u8 55),(.int .u8 48),(.int .u8 27),(.int .u8 60),(.int .u8 41),(.int .u8 37),(.int .u8 16),(.int .u8 46),(.int .u8 35),(.int .u8 44),(.int .u8 21),(.int .u8 52),(.int .u8 32),(.int .u8 23),(.int .u8 11),(.int .u8 54),(.int .u8 26),(.int .u8 40),(.int .u8 15),(.int .u8 34),(.int .u8 20),(.int .u8 31),(.int .u8 10),(.int .u8 25),(.int .u8 14),(.int .u8 19),(.int .u8 9),(.int .u8 13),(.int .u8 8),(.int .u8 7),(.int .u8 6)]),(2,[(.int .u64 1),(.int .u64 10),(.int .u64 100),(.int .u64 1000),(.int .u64 10000),(.int .u64 100000),(.int .u64 1000000),(.int .u64 10000000),(.int .u64 100000000),(.int .u64 1000000000),(.int .u64 10000000000),(.int .u64 100000000000),(.int .u64 1000000000000),(.int .u64 10000000000000),(.int .u64 100000000000000),(.int .u64 1000000000000000),(.int .u64 10000000000000000),(.int .u64 100000000000000000),(.int .u64 1000000000000000000),(.int .u64 10000000000000000000)]),(8,[(.int .u8 128),(.int .u8 191),(.int .u8 160),(.int .u8 191),(.int .u8 128),(.int .u8 159),(.int .u8 144),(.int .u8 191),(.int .u8 128),(.int .u8 143),(.int .u8 0),(.int .u8 0),(.int .u8 0),(.int .u8 0),(.int .u8 0),(.int .u8 0),(.int .u8 0),(.int .u8 0),(.int .u8 0),(.int .u8 0),(.int .u8 0),(.int .u8 0),(.int .u8 0),(.int .u8 0),(.int .u8 0),(.int .u8 0),(.int .u8 0),(.int .u8 0),(.int .u8 0),(.int .u8 0),(.int .u8 0),(.int .u8 0)]),(1,[(.int .i64 0),(.int .i64 (-1)),(.int .u8 2),(.int .i64 0),(.int .i64 0),(.int .i64 (-1)),(.int .u8 2),(.int .i64 0),(.int .i64 0),(.int .u8 1),(.int .i64 0),(.int .i64 0),(.int .u8 3),(.int .i64 0),(.int .i64 0),(.int .i64 2),(.int .i64 0),(.int .i64 1),(.int .i64 0),(.int .u8 1),(.int .i64 1),(.int .i64 1),(.int .i64 0),(.int .u8 3),(.int .i64 0),(.int .i64 0),(.int .u8 0),(.int .i64 0),(.int .i64 0),(.int .u8 2),(.int .i64 2),(.int .i64 2),(.int .i64 2),(.int .i64 0),(.int .i64 0),(.int .i64 1),(.int .u8 2),(.int .i64 1),(.int .i64 0),(.int .i64 1),(.int .u8 0),(.int .i64 0),(.int .i64 0),(.int .u8 3),(.int .i64 0),(.int .i64 0),(.int .u8 1),(.int .i64 2),(.int .i64 2),(.int .i64 0),(.int .i64 2),(.int .i64 (-1)),(.int .i64 0),(.int .u8 1),(.int .i64 0),(.int .i64 (-1)),(.int .i64 0),(.int .u8 1),(.int .i64 0),(.int .i64 0),(.int .u8 2),(.int .i64 0),(.int .i64 0),(.int .u8 0),(.int .i64 0),(.int .i64 0),(.int .i64 0),(.int .i64 2)])]
def H0 (mx:Int):Tr Blk:=(.n (.n (.n .e (some (.cells (.n .e (some (.ifc 273 (.ptr 10 0))) .e) 1)) .e) (some (.cells (.n (.n (.n (.n (.n (.n (.n .e (some (.int .u8 0)) .e) (some (.int .i64 2)) .e) (some (.int .i64 2)) (.n .e (some (.int .i64 2)) .e)) (some (.int .i64 0)) (.n (.n .e (some (.int .i64 1)) .e) (some (.int .u8 3)) (.n .e (some (.int .i64 (-1))) .e))) (some (.int .i64 0)) (.n (.n (.n (.n .e (some (.int .i64 2)) .e) (some (.int .i64 1)) .e) (some (.int .u8 1)) (.n .e (some (.int .i64 (-1))) .e)) (some (.int .i64 0)) (.n (.n .e (some (.int .u8 3)) .e) (some (.int .i64 0)) (.n .e (some (.int .i64 0)) .e)))) (some (.int .i64 (-1))) (.n (.n (.n (.n (.n .e (some (.int .i64 0)) .e) (some (.int .i64 0)) .e) (some (.int .i64 1)) (.n .e (some (.int .i64 0)) .e)) (some (.int .u8 1)) (.n (.n .e (some (.int .i64 0)) .e) (some (.int .i64 0)) (.n .e (some (.int .u8 1)) .e))) (some (.int .i64 (-1))) (.n (.n (.n .e (some (.int .i64 1)) .e) (some (.int .i64 1)) (.n .e (some (.int .u8 1)) .e)) (some (.int .i64 0)) (.n (.n .e (some (.int .i64 0)) .e) (some (.int .u8 2)) (.n .e (some (.int .i64 0)) .e))))) (some (.int .i64 0)) (.n (.n (.n (.n (.n (.n .e (some (.int .i64 0)) .e) (some (.int .i64 2)) .e) (some (.int .i64 0)) (.n .e (some (.int .i64 2)) .e)) (some (.int .i64 0)) (.n (.n .e (some (.int .u8 0)) .e) (some (.int .i64 0)) (.n .e (some (.int .i64 0)) .e))) (some (.int .i64 0)) (.n (.n (.n .e (some (.int .u8 2)) .e) (some (.int .i64 1)) (.n .e (some (.int .i64 0)) .e)) (some (.int .u8 3)) (.n (.n .e (some (.int .i64 0)) .e) (some (.int .i64 0)) (.n .e (some (.int .u8 2)) .e)))) (some (.int .u8 2)) (.n (.n (.n (.n (.n .e (some (.int .i64 0)) .e) (some (.int .i64 0)) .e) (some (.int .i64 0)) (.n .e (some (.int .i64 2)) .e)) (some (.int .i64 0)) (.n (.n .e (some (.int .i64 0)) .e) (some (.int .u8 0)) (.n .e (some (.int .i64 0)) .e))) (some (.int .u8 2)) (.n (.n (.n .e (some (.int .i64 0)) .e) (some (.int .i64 0)) (.n .e (some (.int .i64 0)) .e)) (some (.int .i64 0)) (.n (.n .e (some (.int .u8 1)) .e) (some (.int .i64 2)) (.n .e (some (.int .i64 0)) .e)))))) 68)) (.n .e (some (.cells (.n (.n (.n (.n (.n (.n .e (some (.int .u8 9)) .e) (some (.int .u8 8)) .e) (some (.int .u8 3)) (.n .e (some (.int .u8 7)) .e)) (some (.int .u8 2)) (.n (.n .e (some (.int .u8 23)) .e) (some (.int .u8 15)) (.n .e (some (.int .u8 6)) .e))) (some (.int .u8 1)) (.n (.n (.n .e (some (.int .u8 27)) .e) (some (.int .u8 22)) (.n .e (some (.int .u8 12)) .e)) (some (.int .u8 14)) (.n (.n .e (some (.int .u8 19)) .e) (some (.int .u8 17)) (.n .e (some (.int .u8 5)) .e)))) (some (.int .u8 0)) (.n (.n (.n (.n .e (some (.int .u8 31)) .e) (some (.int .u8 30)) (.n .e (some (.int .u8 26)) .e)) (some (.int .u8 29)) (.n (.n .e (some (.int .u8 21)) .e) (some (.int .u8 25)) (.n .e (some (.int .u8 11)) .e))) (some (.int .u8 28)) (.n (.n (.n .e (some (.int .u8 13)) .e) (some (.int .u8 20)) (.n .e (some (.int .u8 18)) .e)) (some (.int .u8 24)) (.n (.n .e (some (.int .u8 16)) .e) (some (.int .u8 4)) (.n .e (some (.int .u8 10)) .e))))) 32)) .e)) (some (.cells (.n .e (some (.int .i64 mx)) .e) 1)) (.n (.n (.n .e (some (.cells (.n (.n (.n (.n (.n (.n .e (some (.int .u8 0)) .e) (some (.int .u8 0)) .e) (some (.int .u8 191)) (.n .e (some (.int .u8 0)) .e)) (some (.int .u8 191)) (.n (.n .e (some (.int .u8 0)) .e) (some (.int .u8 0)) (.n .e (some (.int .u8 0)) .e))) (some (.int .u8 191)) (.n (.n (.n .e (some (.int .u8 0)) .e) (some (.int .u8 143)) (.n .e (some (.int .u8 0)) .e)) (some (.int .u8 159)) (.n (.n .e (some (.int .u8 0)) .e) (some (.int .u8 0)) (.n .e (some (.int .u8 0)) .e)))) (some (.int .u8 128)) (.n (.n (.n (.n .e (some (.int .u8 0)) .e) (some (.int .u8 128)) (.n .e (some (.int .u8 0)) .e)) (some (.int .u8 128)) (.n (.n .e (some (.int .u8 0)) .e) (some (.int .u8 0)) (.n .e (some (.int .u8 0)) .e))) (some (.int .u8 160)) (.n (.n (.n .e (some (.int .u8 0)) .e) (some (.int .u8 0)) (.n .e (some (.int .u8 0)) .e)) (some (.int .u8 144)) (.n (.n .e (some (.int .u8 0)) .e) (some (.int .u8 0)) (.n .e (some (.int .u8 0)) .e))))) 32)) .e) (some (.cells (.n .e (some (.ifc 273 (.ptr 9 0))) .e) 1)) .e) (some (.cells (.n (.n (.n (.n (.n .e (some (.int .u64 1000000000000000)) .e) (some (.int .u64 10000000)) .e) (some (.int .u64 1000)) (.n (.n .e (some (.int .u64 10000000000000000000)) .e) (some (.int .u64 100000000000)) .e)) (some (.int .u64 10)) (.n (.n (.n .e (some (.int .u64 100000000000000000)) .e) (some (.int .u64 1000000000)) .e) (some (.int .u64 100000)) (.n .e (some (.int .u64 10000000000000)) .e))) (some (.int .u64 1)) (.n (.n (.n (.n .e (some (.int .u64 10000000000000000)) .e) (some (.int .u64 100000000)) .e) (some (.int .u64 10000)) (.n .e (some (.int .u64 1000000000000)) .e)) (some (.int .u64 100)) (.n (.n (.n .e (some (.int .u64 1000000000000000000)) .e) (some (.int .u64 10000000000)) .e) (some (.int .u64 1000000)) (.n .e (some (.int .u64 100000000000000)) .e)))) 20)) (.n .e (some (.cells (.n (.n (.n (.n (.n (.n (.n .e (some (.int .u8 6)) .e) (some (.int .u8 5)) .e) (some (.int .u8 4)) (.n .e (some (.int .u8 11)) .e)) (some (.int .u8 3)) (.n (.n .e (some (.int .u8 16)) .e) (some (.int .u8 22)) (.n .e (some (.int .u8 10)) .e))) (some (.int .u8 2)) (.n (.n (.n .e (some (.int .u8 27)) .e) (some (.int .u8 36)) (.n .e (some (.int .u8 15)) .e)) (some (.int .u8 50)) (.n (.n .e (some (.int .u8 21)) .e) (some (.int .u8 30)) (.n .e (some (.int .u8 9)) .e)))) (some (.int .u8 1)) (.n (.n (.n (.n .e (some (.int .u8 55)) .e) (some (.int .u8 47)) (.n .e (some (.int .u8 26)) .e)) (some (.int .u8 58)) (.n (.n .e (some (.int .u8 35)) .e) (some (.int .u8 39)) (.n .e (some (.int .u8 14)) .e))) (some (.int .u8 49)) (.n (.n (.n .e (some (.int .u8 41)) .e) (some (.int .u8 43)) (.n .e (some (.int .u8 20)) .e)) (some (.int .u8 29)) (.n (.n .e (some (.int .u8 32)) .e) (some (.int .u8 18)) (.n .e (some (.int .u8 8)) .e))))) (some (.int .u8 0)) (.n (.n (.n (.n (.n .e (some (.int .u8 63)) .e) (some (.int .u8 62)) (.n .e (some (.int .u8 54)) .e)) (some (.int .u8 61)) (.n (.n .e (some (.int .u8 46)) .e) (some (.int .u8 53)) (.n .e (some (.int .u8 25)) .e))) (some (.int .u8 57)) (.n (.n (.n .e (some (.int .u8 60)) .e) (some (.int .u8 45)) (.n .e (some (.int .u8 34)) .e)) (some (.int .u8 38)) (.n (.n .e (some (.int .u8 52)) .e) (some (.int .u8 24)) (.n .e (some (.int .u8 13)) .e)))) (some (.int .u8 56)) (.n (.n (.n (.n .e (some (.int .u8 48)) .e) (some (.int .u8 59)) (.n .e (some (.int .u8 40)) .e)) (some (.int .u8 42)) (.n (.n .e (some (.int .u8 44)) .e) (some (.int .u8 33)) (.n .e (some (.int .u8 19)) .e))) (some (.int .u8 28)) (.n (.n (.n .e (some (.int .u8 37)) .e) (some (.int .u8 51)) (.n .e (some (.int .u8 31)) .e)) (some (.int .u8 17)) (.n (.n .e (some (.int .u8 23)) .e) (some (.int .u8 12)) (.n .e (some (.int .u8 7)) .e)))))) 64)) .e)))
abbrev its:Its:=Go.Vm.X.itsL
theorem its_ok:ItsOK Tryz.prog gl its:=Go.Vm.X.itsL_ok
def laidS:List (String×DataW Unit):=(Rows.filesSumRow.laid.zipIdx.filter fun x=>[0,1,2,3,6].contains x.2).map (·.1)
theorem es_ok:entsOf Tryz.prog laidS=some es:=by kernel_rfl
theorem put_mx (mx:Int):put [.int .i64 mx] 0 .e=.n .e (some (.int .i64 mx)) .e:=by
 unfold put putK putK
 simp only[forceA_eq,Tr.setK_eq]
 rfl
theorem H0_eq (mx:Int):ofEnts (ex mx++es)=H0 mx:=by
 show Tr.set (ofEnts ((ex mx).tail++es)) 0 (.cells (put [.int .i64 mx] 0 .e) 1)=H0 mx
 rw[put_mx]
 kernel_rfl
def BB (mx:Int):Base:=⟨H0 mx,nx0⟩
theorem BB_wf (mx:Int):WF (BB mx).H0 (BB mx).nx0:=by
 show WF (H0 mx) nx0
 rw[←H0_eq]
 exact WF_ents (by kernel_rfl)
theorem mixed:Tryz.prog.follows .mixedOrders=true:=by kernel_rfl
end
end Vm
end Go.Proofs.YtccefhabickfiaaGreatDoor
namespace Go.Proofs.YtccefhabickfiaaGreatDoor
namespace Vm
open Go Go.Vm Go.Vm.W
noncomputable section
set_option maxRecDepth 100000
noncomputable def k3:CFn:=gk (cfn Tryz.prog gl Tryz.f3)
theorem k3_ok:cfn Tryz.prog gl Tryz.f3=some k3:=gk_ok (by kernel_rfl)
noncomputable def k12:CFn:=gk (cfn Tryz.prog gl Tryz.f12)
theorem k12_ok:cfn Tryz.prog gl Tryz.f12=some k12:=gk_ok (by kernel_rfl)
noncomputable def k13:CFn:=gk (cfn Tryz.prog gl Tryz.f13)
theorem k13_ok:cfn Tryz.prog gl Tryz.f13=some k13:=gk_ok (by kernel_rfl)
noncomputable def k14:CFn:=gk (cfn Tryz.prog gl Tryz.f14)
theorem k14_ok:cfn Tryz.prog gl Tryz.f14=some k14:=gk_ok (by kernel_rfl)
noncomputable def k18:CFn:=gk (cfn Tryz.prog gl Tryz.f18)
theorem k18_ok:cfn Tryz.prog gl Tryz.f18=some k18:=gk_ok (by kernel_rfl)
noncomputable def k26:CFn:=gk (cfn Tryz.prog gl Tryz.f26)
theorem k26_ok:cfn Tryz.prog gl Tryz.f26=some k26:=gk_ok (by kernel_rfl)
noncomputable def k27:CFn:=gk (cfn Tryz.prog gl Tryz.f27)
theorem k27_ok:cfn Tryz.prog gl Tryz.f27=some k27:=gk_ok (by kernel_rfl)
noncomputable def k32:CFn:=gk (cfn Tryz.prog gl Tryz.f32 its)
theorem k32_ok:cfn Tryz.prog gl Tryz.f32 its=some k32:=gk_ok (by kernel_rfl)
noncomputable def k33:CFn:=gk (cfn Tryz.prog gl Tryz.f33)
theorem k33_ok:cfn Tryz.prog gl Tryz.f33=some k33:=gk_ok (by kernel_rfl)
noncomputable def k34:CFn:=gk (cfn Tryz.prog gl Tryz.f34)
theorem k34_ok:cfn Tryz.prog gl Tryz.f34=some k34:=gk_ok (by kernel_rfl)
noncomputable def k35:CFn:=gk (cfn Tryz.prog gl Tryz.f35)
theorem k35_ok:cfn Tryz.prog gl Tryz.f35=some k35:=gk_ok (by kernel_rfl)
noncomputable def k37:CFn:=gk (cfn Tryz.prog gl Tryz.f37)
theorem k37_ok:cfn Tryz.prog gl Tryz.f37=some k37:=gk_ok (by kernel_rfl)
noncomputable def k38:CFn:=gk (cfn Tryz.prog gl Tryz.f38)
theorem k38_ok:cfn Tryz.prog gl Tryz.f38=some k38:=gk_ok (by kernel_rfl)
noncomputable def k39:CFn:=gk (cfn Tryz.prog gl Tryz.f39)
theorem k39_ok:cfn Tryz.prog gl Tryz.f39=some k39:=gk_ok (by kernel_rfl)
noncomputable def k44:CFn:=gk (cfn Tryz.prog gl Tryz.f44)
theorem k44_ok:cfn Tryz.prog gl Tryz.f44=some k44:=gk_ok (by kernel_rfl)
noncomputable def k46:CFn:=gk (cfn Tryz.prog gl Tryz.f46)
theorem k46_ok:cfn Tryz.prog gl Tryz.f46=some k46:=gk_ok (by kernel_rfl)
noncomputable def k47:CFn:=gk (cfn Tryz.prog gl Tryz.f47)
theorem k47_ok:cfn Tryz.prog gl Tryz.f47=some k47:=gk_ok (by kernel_rfl)
noncomputable def k50:CFn:=gk (cfn Tryz.prog gl Tryz.f50)
theorem k50_ok:cfn Tryz.prog gl Tryz.f50=some k50:=gk_ok (by kernel_rfl)
noncomputable def k51:CFn:=gk (cfn Tryz.prog gl Tryz.f51)
theorem k51_ok:cfn Tryz.prog gl Tryz.f51=some k51:=gk_ok (by kernel_rfl)
noncomputable def k52:CFn:=gk (cfn Tryz.prog gl Tryz.f52)
theorem k52_ok:cfn Tryz.prog gl Tryz.f52=some k52:=gk_ok (by kernel_rfl)
noncomputable def k54:CFn:=gk (cfn Tryz.prog gl Tryz.f54)
theorem k54_ok:cfn Tryz.prog gl Tryz.f54=some k54:=gk_ok (by kernel_rfl)
noncomputable def k55:CFn:=gk (cfn Tryz.prog gl Tryz.f55)
theorem k55_ok:cfn Tryz.prog gl Tryz.f55=some k55:=gk_ok (by kernel_rfl)
noncomputable def k56:CFn:=gk (cfn Tryz.prog gl Tryz.f56)
theorem k56_ok:cfn Tryz.prog gl Tryz.f56=some k56:=gk_ok (by kernel_rfl)
noncomputable def k57:CFn:=gk (cfn Tryz.prog gl Tryz.f57)
theorem k57_ok:cfn Tryz.prog gl Tryz.f57=some k57:=gk_ok (by kernel_rfl)
noncomputable def k58:CFn:=gk (cfn Tryz.prog gl Tryz.f58)
theorem k58_ok:cfn Tryz.prog gl Tryz.f58=some k58:=gk_ok (by kernel_rfl)
noncomputable def k60:CFn:=gk (cfn Tryz.prog gl Tryz.f60)
theorem k60_ok:cfn Tryz.prog gl Tryz.f60=some k60:=gk_ok (by kernel_rfl)
noncomputable def k61:CFn:=gk (cfn Tryz.prog gl Tryz.f61)
theorem k61_ok:cfn Tryz.prog gl Tryz.f61=some k61:=gk_ok (by kernel_rfl)
noncomputable def k63:CFn:=gk (cfn Tryz.prog gl Tryz.f63)
theorem k63_ok:cfn Tryz.prog gl Tryz.f63=some k63:=gk_ok (by kernel_rfl)
noncomputable def k64:CFn:=gk (cfn Tryz.prog gl Tryz.f64)
theorem k64_ok:cfn Tryz.prog gl Tryz.f64=some k64:=gk_ok (by kernel_rfl)
noncomputable def k65:CFn:=gk (cfn Tryz.prog gl Tryz.f65)
theorem k65_ok:cfn Tryz.prog gl Tryz.f65=some k65:=gk_ok (by kernel_rfl)
noncomputable def k69:CFn:=gk (cfn Tryz.prog gl Tryz.f69)
theorem k69_ok:cfn Tryz.prog gl Tryz.f69=some k69:=gk_ok (by kernel_rfl)
noncomputable def k79:CFn:=gk (cfn Tryz.prog gl Tryz.f79)
theorem k79_ok:cfn Tryz.prog gl Tryz.f79=some k79:=gk_ok (by kernel_rfl)
noncomputable def k80:CFn:=gk (cfn Tryz.prog gl Tryz.f80)
theorem k80_ok:cfn Tryz.prog gl Tryz.f80=some k80:=gk_ok (by kernel_rfl)
noncomputable def k81:CFn:=gk (cfn Tryz.prog gl Tryz.f81 its)
theorem k81_ok:cfn Tryz.prog gl Tryz.f81 its=some k81:=gk_ok (by kernel_rfl)
noncomputable def k82:CFn:=gk (cfn Tryz.prog gl Tryz.f82)
theorem k82_ok:cfn Tryz.prog gl Tryz.f82=some k82:=gk_ok (by kernel_rfl)
noncomputable def k85:CFn:=gk (cfn Tryz.prog gl Tryz.f85)
theorem k85_ok:cfn Tryz.prog gl Tryz.f85=some k85:=gk_ok (by kernel_rfl)
noncomputable def k86:CFn:=gk (cfn Tryz.prog gl Tryz.f86)
theorem k86_ok:cfn Tryz.prog gl Tryz.f86=some k86:=gk_ok (by kernel_rfl)
noncomputable def k87:CFn:=gk (cfn Tryz.prog gl Tryz.f87)
theorem k87_ok:cfn Tryz.prog gl Tryz.f87=some k87:=gk_ok (by kernel_rfl)
noncomputable def k88:CFn:=gk (cfn Tryz.prog gl Tryz.f88)
theorem k88_ok:cfn Tryz.prog gl Tryz.f88=some k88:=gk_ok (by kernel_rfl)
noncomputable def k89:CFn:=gk (cfn Tryz.prog gl Tryz.f89)
theorem k89_ok:cfn Tryz.prog gl Tryz.f89=some k89:=gk_ok (by kernel_rfl)
noncomputable def k90:CFn:=gk (cfn Tryz.prog gl Tryz.f90)
theorem k90_ok:cfn Tryz.prog gl Tryz.f90=some k90:=gk_ok (by kernel_rfl)
noncomputable def k91:CFn:=gk (cfn Tryz.prog gl Tryz.f91)
theorem k91_ok:cfn Tryz.prog gl Tryz.f91=some k91:=gk_ok (by kernel_rfl)
noncomputable def k92:CFn:=gk (cfn Tryz.prog gl Tryz.f92)
theorem k92_ok:cfn Tryz.prog gl Tryz.f92=some k92:=gk_ok (by kernel_rfl)
noncomputable def k93:CFn:=gk (cfn Tryz.prog gl Tryz.f93)
theorem k93_ok:cfn Tryz.prog gl Tryz.f93=some k93:=gk_ok (by kernel_rfl)
noncomputable def k94:CFn:=gk (cfn Tryz.prog gl Tryz.f94)
theorem k94_ok:cfn Tryz.prog gl Tryz.f94=some k94:=gk_ok (by kernel_rfl)
noncomputable def k97:CFn:=gk (cfn Tryz.prog gl Tryz.f97)
theorem k97_ok:cfn Tryz.prog gl Tryz.f97=some k97:=gk_ok (by kernel_rfl)
noncomputable def k98:CFn:=gk (cfn Tryz.prog gl Tryz.f98)
theorem k98_ok:cfn Tryz.prog gl Tryz.f98=some k98:=gk_ok (by kernel_rfl)
noncomputable def k103:CFn:=gk (cfn Tryz.prog gl Tryz.f103)
theorem k103_ok:cfn Tryz.prog gl Tryz.f103=some k103:=gk_ok (by kernel_rfl)
noncomputable def k114:CFn:=gk (cfn Tryz.prog gl Tryz.f114)
theorem k114_ok:cfn Tryz.prog gl Tryz.f114=some k114:=gk_ok (by kernel_rfl)
noncomputable def k115:CFn:=gk (cfn Tryz.prog gl Tryz.f115)
theorem k115_ok:cfn Tryz.prog gl Tryz.f115=some k115:=gk_ok (by kernel_rfl)
noncomputable def k126:CFn:=gk (cfn Tryz.prog gl Tryz.f126)
theorem k126_ok:cfn Tryz.prog gl Tryz.f126=some k126:=gk_ok (by kernel_rfl)
noncomputable def k127:CFn:=gk (cfn Tryz.prog gl Tryz.f127)
theorem k127_ok:cfn Tryz.prog gl Tryz.f127=some k127:=gk_ok (by kernel_rfl)
noncomputable def k128:CFn:=gk (cfn Tryz.prog gl Tryz.f128)
theorem k128_ok:cfn Tryz.prog gl Tryz.f128=some k128:=gk_ok (by kernel_rfl)
noncomputable def k129:CFn:=gk (cfn Tryz.prog gl Tryz.f129)
theorem k129_ok:cfn Tryz.prog gl Tryz.f129=some k129:=gk_ok (by kernel_rfl)
noncomputable def k130:CFn:=gk (cfn Tryz.prog gl Tryz.f130)
theorem k130_ok:cfn Tryz.prog gl Tryz.f130=some k130:=gk_ok (by kernel_rfl)
noncomputable def k131:CFn:=gk (cfn Tryz.prog gl Tryz.f131)
theorem k131_ok:cfn Tryz.prog gl Tryz.f131=some k131:=gk_ok (by kernel_rfl)
noncomputable def k140:CFn:=gk (cfn Tryz.prog gl Tryz.f140)
theorem k140_ok:cfn Tryz.prog gl Tryz.f140=some k140:=gk_ok (by kernel_rfl)
noncomputable def k141:CFn:=gk (cfn Tryz.prog gl Tryz.f141)
theorem k141_ok:cfn Tryz.prog gl Tryz.f141=some k141:=gk_ok (by kernel_rfl)
noncomputable def k142:CFn:=gk (cfn Tryz.prog gl Tryz.f142)
theorem k142_ok:cfn Tryz.prog gl Tryz.f142=some k142:=gk_ok (by kernel_rfl)
noncomputable def k143:CFn:=gk (cfn Tryz.prog gl Tryz.f143)
theorem k143_ok:cfn Tryz.prog gl Tryz.f143=some k143:=gk_ok (by kernel_rfl)
noncomputable def k160:CFn:=gk (cfn Tryz.prog gl Tryz.f160)
theorem k160_ok:cfn Tryz.prog gl Tryz.f160=some k160:=gk_ok (by kernel_rfl)
noncomputable def k161:CFn:=gk (cfn Tryz.prog gl Tryz.f161)
theorem k161_ok:cfn Tryz.prog gl Tryz.f161=some k161:=gk_ok (by kernel_rfl)
noncomputable def k167:CFn:=gk (cfn Tryz.prog gl Tryz.f167)
theorem k167_ok:cfn Tryz.prog gl Tryz.f167=some k167:=gk_ok (by kernel_rfl)
noncomputable def k168:CFn:=gk (cfn Tryz.prog gl Tryz.f168)
theorem k168_ok:cfn Tryz.prog gl Tryz.f168=some k168:=gk_ok (by kernel_rfl)
noncomputable def k169:CFn:=gk (cfn Tryz.prog gl Tryz.f169)
theorem k169_ok:cfn Tryz.prog gl Tryz.f169=some k169:=gk_ok (by kernel_rfl)
noncomputable def k170:CFn:=gk (cfn Tryz.prog gl Tryz.f170)
theorem k170_ok:cfn Tryz.prog gl Tryz.f170=some k170:=gk_ok (by kernel_rfl)
noncomputable def k171:CFn:=gk (cfn Tryz.prog gl Tryz.f171)
theorem k171_ok:cfn Tryz.prog gl Tryz.f171=some k171:=gk_ok (by kernel_rfl)
noncomputable def k176:CFn:=gk (cfn Tryz.prog gl Tryz.f176)
theorem k176_ok:cfn Tryz.prog gl Tryz.f176=some k176:=gk_ok (by kernel_rfl)
noncomputable def k177:CFn:=gk (cfn Tryz.prog gl Tryz.f177)
theorem k177_ok:cfn Tryz.prog gl Tryz.f177=some k177:=gk_ok (by kernel_rfl)
noncomputable def k178:CFn:=gk (cfn Tryz.prog gl Tryz.f178)
theorem k178_ok:cfn Tryz.prog gl Tryz.f178=some k178:=gk_ok (by kernel_rfl)
noncomputable def k188:CFn:=gk (cfn Tryz.prog gl Tryz.f188)
theorem k188_ok:cfn Tryz.prog gl Tryz.f188=some k188:=gk_ok (by kernel_rfl)
noncomputable def k190:CFn:=gk (cfn Tryz.prog gl Tryz.f190)
theorem k190_ok:cfn Tryz.prog gl Tryz.f190=some k190:=gk_ok (by kernel_rfl)
noncomputable def k191:CFn:=gk (cfn Tryz.prog gl Tryz.f191)
theorem k191_ok:cfn Tryz.prog gl Tryz.f191=some k191:=gk_ok (by kernel_rfl)
end
end Vm
end Go.Proofs.YtccefhabickfiaaGreatDoor
namespace Go.Proofs.YtccefhabickfiaaGreatDoor
namespace Vm
open Go Go.Vm Go.Vm.W
noncomputable section
set_option maxRecDepth 100000
attribute [local irreducible] k3 k12 k13 k14 k18 k26 k27 k32 k33 k34 k35 k37 k38 k39 k44 k46 k47 k50 k51 k52 k54 k55 k56 k57 k58 k60 k61 k63 k64 k65 k69 k79 k80 k81 k82 k85 k86 k87 k88 k89 k90 k91 k92 k93 k94 k97 k98 k103 k114 k115 k126 k127 k128 k129 k130 k131 k140 k141 k142 k143 k160 k161 k167 k168 k169 k170 k171 k176 k177 k178 k188 k190 k191
def prog:Tr CFn:=(.n (.n (.n (.n (.n (.n (.n (.n .e (some k127) .e) (some k63) (.n .e (some k191) .e)) none .e) none (.n (.n (.n .e (some k143) .e) (some k79) .e) (some k47) .e)) none (.n (.n .e (some k39) (.n (.n .e (some k167) .e) (some k103) .e)) none (.n (.n .e (some k87) .e) (some k55) .e))) (some k3) (.n (.n (.n (.n (.n .e (some k131) .e) none .e) (some k35) .e) none (.n .e (some k51) (.n .e (some k115) .e))) none (.n (.n .e none (.n (.n .e (some k171) .e) none .e)) (some k27) (.n (.n .e (some k91) .e) none .e)))) none (.n (.n (.n (.n (.n (.n .e (some k129) .e) (some k65) .e) (some k33) (.n (.n .e (some k161) .e) (some k97) .e)) none (.n (.n .e (some k81) .e) none (.n (.n .e (some k177) .e) none .e))) none (.n (.n .e none (.n (.n .e (some k169) .e) none .e)) none (.n (.n .e (some k89) .e) (some k57) .e))) none (.n (.n (.n (.n .e (some k69) .e) (some k37) .e) none (.n (.n .e (some k85) .e) none .e)) (some k13) (.n (.n (.n (.n .e (some k141) .e) none .e) none .e) none (.n (.n .e (some k93) .e) (some k61) .e))))) none (.n (.n (.n (.n (.n (.n (.n .e (some k128) .e) (some k64) .e) (some k32) (.n (.n .e (some k160) .e) none .e)) none (.n (.n .e (some k80) .e) none (.n (.n .e (some k176) .e) none .e))) none (.n (.n .e none (.n (.n .e (some k168) .e) none .e)) none (.n (.n .e (some k88) .e) (some k56) .e))) none (.n (.n .e none (.n .e (some k52) .e)) (some k12) (.n (.n (.n (.n .e (some k140) .e) none .e) (some k44) .e) none (.n (.n .e (some k92) .e) (some k60) (.n (.n .e (some k188) .e) none .e))))) none (.n (.n (.n (.n (.n (.n .e (some k130) .e) none .e) (some k34) (.n .e (some k98) .e)) (some k18) (.n (.n .e (some k82) .e) (some k50) (.n (.n .e (some k178) .e) (some k114) .e))) none (.n (.n .e none (.n (.n .e (some k170) .e) none .e)) (some k26) (.n (.n .e (some k90) .e) (some k58) .e))) none (.n (.n (.n .e (some k38) .e) none (.n (.n .e (some k86) .e) (some k54) .e)) (some k14) (.n (.n (.n (.n .e (some k142) .e) none .e) (some k46) .e) none (.n (.n .e (some k94) .e) none (.n (.n .e (some k190) .e) (some k126) .e)))))))
def kl:List (Nat×CFn):=[(3,k3),(12,k12),(13,k13),(14,k14),(18,k18),(26,k26),(27,k27),(32,k32),(33,k33),(34,k34),(35,k35),(37,k37),(38,k38),(39,k39),(44,k44),(46,k46),(47,k47),(50,k50),(51,k51),(52,k52),(54,k54),(55,k55),(56,k56),(57,k57),(58,k58),(60,k60),(61,k61),(63,k63),(64,k64),(65,k65),(69,k69),(79,k79),(80,k80),(81,k81),(82,k82),(85,k85),(86,k86),(87,k87),(88,k88),(89,k89),(90,k90),(91,k91),(92,k92),(93,k93),(94,k94),(97,k97),(98,k98),(103,k103),(114,k114),(115,k115),(126,k126),(127,k127),(128,k128),(129,k129),(130,k130),(131,k131),(140,k140),(141,k141),(142,k142),(143,k143),(160,k160),(161,k161),(167,k167),(168,k168),(169,k169),(170,k170),(171,k171),(176,k176),(177,k177),(178,k178),(188,k188),(190,k190),(191,k191)]
theorem kl_ok:AllK Tryz.prog gl its kl:=⟨⟨Tryz.f3,Tryz.func3,.inl k3_ok⟩,⟨Tryz.f12,Tryz.func12,.inl k12_ok⟩,⟨Tryz.f13,Tryz.func13,.inl k13_ok⟩,⟨Tryz.f14,Tryz.func14,.inl k14_ok⟩,⟨Tryz.f18,Tryz.func18,.inl k18_ok⟩,⟨Tryz.f26,Tryz.func26,.inl k26_ok⟩,⟨Tryz.f27,Tryz.func27,.inl k27_ok⟩,⟨Tryz.f32,Tryz.func32,.inr (.inl k32_ok)⟩,⟨Tryz.f33,Tryz.func33,.inl k33_ok⟩,⟨Tryz.f34,Tryz.func34,.inl k34_ok⟩,⟨Tryz.f35,Tryz.func35,.inl k35_ok⟩,⟨Tryz.f37,Tryz.func37,.inl k37_ok⟩,⟨Tryz.f38,Tryz.func38,.inl k38_ok⟩,⟨Tryz.f39,Tryz.func39,.inl k39_ok⟩,⟨Tryz.f44,Tryz.func44,.inl k44_ok⟩,⟨Tryz.f46,Tryz.func46,.inl k46_ok⟩,⟨Tryz.f47,Tryz.func47,.inl k47_ok⟩,⟨Tryz.f50,Tryz.func50,.inl k50_ok⟩,⟨Tryz.f51,Tryz.func51,.inl k51_ok⟩,⟨Tryz.f52,Tryz.func52,.inl k52_ok⟩,⟨Tryz.f54,Tryz.func54,.inl k54_ok⟩,⟨Tryz.f55,Tryz.func55,.inl k55_ok⟩,⟨Tryz.f56,Tryz.func56,.inl k56_ok⟩,⟨Tryz.f57,Tryz.func57,.inl k57_ok⟩,⟨Tryz.f58,Tryz.func58,.inl k58_ok⟩,⟨Tryz.f60,Tryz.func60,.inl k60_ok⟩,⟨Tryz.f61,Tryz.func61,.inl k61_ok⟩,⟨Tryz.f63,Tryz.func63,.inl k63_ok⟩,⟨Tryz.f64,Tryz.func64,.inl k64_ok⟩,⟨Tryz.f65,Tryz.func65,.inl k65_ok⟩,⟨Tryz.f69,Tryz.func69,.inl k69_ok⟩,⟨Tryz.f79,Tryz.func79,.inl k79_ok⟩,⟨Tryz.f80,Tryz.func80,.inl k80_ok⟩,⟨Tryz.f81,Tryz.func81,.inr (.inl k81_ok)⟩,⟨Tryz.f82,Tryz.func82,.inl k82_ok⟩,⟨Tryz.f85,Tryz.func85,.inl k85_ok⟩,⟨Tryz.f86,Tryz.func86,.inl k86_ok⟩,⟨Tryz.f87,Tryz.func87,.inl k87_ok⟩,⟨Tryz.f88,Tryz.func88,.inl k88_ok⟩,⟨Tryz.f89,Tryz.func89,.inl k89_ok⟩,⟨Tryz.f90,Tryz.func90,.inl k90_ok⟩,⟨Tryz.f91,Tryz.func91,.inl k91_ok⟩,⟨Tryz.f92,Tryz.func92,.inl k92_ok⟩,⟨Tryz.f93,Tryz.func93,.inl k93_ok⟩,⟨Tryz.f94,Tryz.func94,.inl k94_ok⟩,⟨Tryz.f97,Tryz.func97,.inl k97_ok⟩,⟨Tryz.f98,Tryz.func98,.inl k98_ok⟩,⟨Tryz.f103,Tryz.func103,.inl k103_ok⟩,⟨Tryz.f114,Tryz.func114,.inl k114_ok⟩,⟨Tryz.f115,Tryz.func115,.inl k115_ok⟩,⟨Tryz.f126,Tryz.func126,.inl k126_ok⟩,⟨Tryz.f127,Tryz.func127,.inl k127_ok⟩,⟨Tryz.f128,Tryz.func128,.inl k128_ok⟩,⟨Tryz.f129,Tryz.func129,.inl k129_ok⟩,⟨Tryz.f130,Tryz.func130,.inl k130_ok⟩,⟨Tryz.f131,Tryz.func131,.inl k131_ok⟩,⟨Tryz.f140,Tryz.func140,.inl k140_ok⟩,⟨Tryz.f141,Tryz.func141,.inl k141_ok⟩,⟨Tryz.f142,Tryz.func142,.inl k142_ok⟩,⟨Tryz.f143,Tryz.func143,.inl k143_ok⟩,⟨Tryz.f160,Tryz.func160,.inl k160_ok⟩,⟨Tryz.f161,Tryz.func161,.inl k161_ok⟩,⟨Tryz.f167,Tryz.func167,.inl k167_ok⟩,⟨Tryz.f168,Tryz.func168,.inl k168_ok⟩,⟨Tryz.f169,Tryz.func169,.inl k169_ok⟩,⟨Tryz.f170,Tryz.func170,.inl k170_ok⟩,⟨Tryz.f171,Tryz.func171,.inl k171_ok⟩,⟨Tryz.f176,Tryz.func176,.inl k176_ok⟩,⟨Tryz.f177,Tryz.func177,.inl k177_ok⟩,⟨Tryz.f178,Tryz.func178,.inl k178_ok⟩,⟨Tryz.f188,Tryz.func188,.inl k188_ok⟩,⟨Tryz.f190,Tryz.func190,.inl k190_ok⟩,⟨Tryz.f191,Tryz.func191,.inl k191_ok⟩,trivial⟩
theorem prog_eq:prog=ofK kl:=by kernel_rfl
theorem prog_ok:ProgOK Tryz.prog gl prog:=prog_eq▸progOK_of its_ok kl_ok
end
end Vm
end Go.Proofs.YtccefhabickfiaaGreatDoor
