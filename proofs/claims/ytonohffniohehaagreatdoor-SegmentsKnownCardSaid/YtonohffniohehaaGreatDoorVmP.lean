/-
  The program's text for the machine. (Printed by a program.)
  The program's text for the machine. (Printed by a program.)
  The program's text for the machine. (Printed by a program.)
-/
import Derived.Test.YtonohffniohehaaGreatDoorRows
import Derived.Test.YtonohffniohehaaGreatDoorIt
set_option linter.unusedSimpArgs false
set_option linter.unusedVariables false
set_option linter.unusedSectionVars false
set_option linter.unnecessarySimpa false
namespace Go.Proofs.YtonohffniohehaaGreatDoor
namespace Vm
open Go Go.Vm Go.Vm.W
noncomputable section
set_option maxRecDepth 100000
def gl:List Nat:=[0,1,2,3,4,5,6,7,8,9]
def nx0:Nat:=12
def ex (mx:Int):List (Nat×List AV):=[(1,[(.int .i64 mx)]),(4,[(.ifc 250 (.ptr 10 0))]),(3,[(.ifc 250 (.ptr 11 0))])]
def es:List (Nat×List AV):=[(8,[(.int .u8 0),(.int .u8 1),(.int .u8 28),(.int .u8 2),(.int .u8 29),(.int .u8 14),(.int .u8 24),(.int .u8 3),(.int .u8 30),(.int .u8 22),(.int .u8 20),(.int .u8 15),(.int .u8 25),(.int .u8 17),(.int .u8 4),(.int .u8 8),(.int .u8 31),(.int .u8 27),(.int .u8 13),(.int .u8 23),(.int .u8 21),(.int .u8 19),(.int .u8 16),(.int .u8 7),(.int .u8 26),(.int .u8 12),(.int .u8 18),(.int .u8 6),(.int .u8 11),(.int .u8 5),(.int .u8 10),(.int .u8 9)]),(9,[(.int .u8 0),(.int .u8 1),(.int .u8 56),(.int .u8 2),(.int .u8 57),(.int .u8 49),(.int .u8 28),(.int .u8 3),(.int .u8 61),(.int .u8 58),(.int .u8 42),(.int .u8 50),(.int .u8 38),(.int .u8 29),(.int .u8 17),(.int .u8 4),(.int .u8 62),(.int .u8 47),(.int .u8 59),(.int .u8 36),(.int .u8 45),(.int .u8 43),(.int .u8 51),(.int .u8 22),(.int .u8 53),(.int .u8 39),(.int .u8 33),(.int .u8 30),(.int .u8 24),(.int .u8 18),(.int .u8 12),(.int .u8 5),(.int .u8 63),(.int .u8 55),(.int .u8 48),(.int .u8 27),(.int .u8 60),(.int .u8 41),(.int .u8 37),(.int .u8 16),(.int .u8 46),(.int .u8 35),(.int .u8 44),(.int .u8 21),(.int .u8 52),(.int .u8 32),(.int .u8 23),(.int .u8 11),(.int .u8 54),(.int .u8 26),(.int .u8 40),(.int .u8 15),(.int .u8 34),(.int .u8 20),(.int .u8 31),(.int .u8 10),(.int .u8 25),(.int .u8 14),(.int .u8 19),(.int .u8 9),(.int .u8 13),(.int .u8 8),(.int .u8 7),(.int .u8 6)]),(5,[(.int .u64 1),(.int .u64 10),(.int .u64 100),(.int .u64 1000),(.int .u64 10000),(.int .u64 100000),(.int .u64 1000000),(.int .u64 10000000),(.int .u64 100000000),(.int .u64 1000000000),(.int .u64 10000000000),(.int .u64 100000000000),(.int .u64 1000000000000),(.int .u64 10000000000000),(.int .u64 100000000000000),(.int .u64 1000000000000000),(.int .u64 10000000000000000),(.int .u64 100000000000000000),(.int .u64 1000000000000000000),(.int .u64 10000000000000000000)]),(7,[(.int .u8 128),(.int .u8 191),(.int .u8 160),(.int .u8 191),(.int .u8 128),(.int .u8 159),(.int .u8 144),(.int .u8 191),(.int .u8 128),(.int .u8 143),(.int .u8 0),(.int .u8 0),(.int .u8 0),(.int .u8 0),(.int .u8 0),(.int .u8 0),(.int .u8 0),(.int .u8 0),(.int .u8 0),(.int .u8 0),(.int .u8 0),(.int .u8 0),(.int .u8 0),(.int .u8 0),(.int .u8 0),(.int .u8 0),(.int .u8 0),(.int .u8 0),(.int .u8 0),(.int .u8 0),(.int .u8 0),(.int .u8 0)]),(2,[(.int .i64 0),(.int .i64 (-1)),(.int .u8 2),(.int .i64 0),(.int .i64 0),(.int .i64 (-1)),(.int .u8 2),(.int .i64 0),(.int .i64 0),(.int .u8 1),(.int .i64 0),(.int .i64 0),(.int .u8 3),(.int .i64 0),(.int .i64 0),(.int .i64 2),(.int .i64 0),(.int .i64 1),(.int .i64 0),(.int .u8 1),(.int .i64 1),(.int .i64 1),(.int .i64 0),(.int .u8 3),(.int .i64 0),(.int .i64 0),(.int .u8 0),(.int .i64 0),(.int .i64 0),(.int .u8 2),(.int .i64 2),(.int .i64 2),(.int .i64 2),(.int .i64 0),(.int .i64 0),(.int .i64 1),(.int .u8 2),(.int .i64 1),(.int .i64 0),(.int .i64 1),(.int .u8 0),(.int .i64 0),(.int .i64 0),(.int .u8 3),(.int .i64 0),(.int .i64 0),(.int .u8 1),(.int .i64 2),(.int .i64 2),(.int .i64 0),(.int .i64 2),(.int .i64 (-1)),(.int .i64 0),(.int .u8 1),(.int .i64 0),(.int .i64 (-1)),(.int .i64 0),(.int .u8 1),(.int .i64 0),(.int .i64 0),(.int .u8 2),(.int .i64 0),(.int .i64 0),(.int .u8 0),(.int .i64 0),(.int .i64 0),(.int .i64 0),(.int .i64 2)]),(0,[(.int .u8 0),(.int .u8 2),(.int .u8 1),(.int .u8 3)])]
def H0 (mx:Int):Tr Blk:=(.n (.n (.n (.n .e (some (.cells (.n (.n (.n (.n (.n (.n .e (some (.int .u8 0)) .e) (some (.int .u8 0)) .e) (some (.int .u8 191)) (.n .e (some (.int .u8 0)) .e)) (some (.int .u8 191)) (.n (.n .e (some (.int .u8 0)) .e) (some (.int .u8 0)) (.n .e (some (.int .u8 0)) .e))) (some (.int .u8 191)) (.n (.n (.n .e (some (.int .u8 0)) .e) (some (.int .u8 143)) (.n .e (some (.int .u8 0)) .e)) (some (.int .u8 159)) (.n (.n .e (some (.int .u8 0)) .e) (some (.int .u8 0)) (.n .e (some (.int .u8 0)) .e)))) (some (.int .u8 128)) (.n (.n (.n (.n .e (some (.int .u8 0)) .e) (some (.int .u8 128)) (.n .e (some (.int .u8 0)) .e)) (some (.int .u8 128)) (.n (.n .e (some (.int .u8 0)) .e) (some (.int .u8 0)) (.n .e (some (.int .u8 0)) .e))) (some (.int .u8 160)) (.n (.n (.n .e (some (.int .u8 0)) .e) (some (.int .u8 0)) (.n .e (some (.int .u8 0)) .e)) (some (.int .u8 144)) (.n (.n .e (some (.int .u8 0)) .e) (some (.int .u8 0)) (.n .e (some (.int .u8 0)) .e))))) 32)) .e) (some (.cells (.n .e (some (.ifc 250 (.ptr 11 0))) .e) 1)) .e) (some (.cells (.n .e (some (.int .i64 mx)) .e) 1)) (.n (.n .e (some (.cells (.n (.n (.n (.n (.n (.n (.n .e (some (.int .u8 6)) .e) (some (.int .u8 5)) .e) (some (.int .u8 4)) (.n .e (some (.int .u8 11)) .e)) (some (.int .u8 3)) (.n (.n .e (some (.int .u8 16)) .e) (some (.int .u8 22)) (.n .e (some (.int .u8 10)) .e))) (some (.int .u8 2)) (.n (.n (.n .e (some (.int .u8 27)) .e) (some (.int .u8 36)) (.n .e (some (.int .u8 15)) .e)) (some (.int .u8 50)) (.n (.n .e (some (.int .u8 21)) .e) (some (.int .u8 30)) (.n .e (some (.int .u8 9)) .e)))) (some (.int .u8 1)) (.n (.n (.n (.n .e (some (.int .u8 55)) .e) (some (.int .u8 47)) (.n .e (some (.int .u8 26)) .e)) (some (.int .u8 58)) (.n (.n .e (some (.int .u8 35)) .e) (some (.int .u8 39)) (.n .e (some (.int .u8 14)) .e))) (some (.int .u8 49)) (.n (.n (.n .e (some (.int .u8 41)) .e) (some (.int .u8 43)) (.n .e (some (.int .u8 20)) .e)) (some (.int .u8 29)) (.n (.n .e (some (.int .u8 32)) .e) (some (.int .u8 18)) (.n .e (some (.int .u8 8)) .e))))) (some (.int .u8 0)) (.n (.n (.n (.n (.n .e (some (.int .u8 63)) .e) (some (.int .u8 62)) (.n .e (some (.int .u8 54)) .e)) (some (.int .u8 61)) (.n (.n .e (some (.int .u8 46)) .e) (some (.int .u8 53)) (.n .e (some (.int .u8 25)) .e))) (some (.int .u8 57)) (.n (.n (.n .e (some (.int .u8 60)) .e) (some (.int .u8 45)) (.n .e (some (.int .u8 34)) .e)) (some (.int .u8 38)) (.n (.n .e (some (.int .u8 52)) .e) (some (.int .u8 24)) (.n .e (some (.int .u8 13)) .e)))) (some (.int .u8 56)) (.n (.n (.n (.n .e (some (.int .u8 48)) .e) (some (.int .u8 59)) (.n .e (some (.int .u8 40)) .e)) (some (.int .u8 42)) (.n (.n .e (some (.int .u8 44)) .e) (some (.int .u8 33)) (.n .e (some (.int .u8 19)) .e))) (some (.int .u8 28)) (.n (.n (.n .e (some (.int .u8 37)) .e) (some (.int .u8 51)) (.n .e (some (.int .u8 31)) .e)) (some (.int .u8 17)) (.n (.n .e (some (.int .u8 23)) .e) (some (.int .u8 12)) (.n .e (some (.int .u8 7)) .e)))))) 64)) .e) (some (.cells (.n (.n (.n (.n (.n .e (some (.int .u64 1000000000000000)) .e) (some (.int .u64 10000000)) .e) (some (.int .u64 1000)) (.n (.n .e (some (.int .u64 10000000000000000000)) .e) (some (.int .u64 100000000000)) .e)) (some (.int .u64 10)) (.n (.n (.n .e (some (.int .u64 100000000000000000)) .e) (some (.int .u64 1000000000)) .e) (some (.int .u64 100000)) (.n .e (some (.int .u64 10000000000000)) .e))) (some (.int .u64 1)) (.n (.n (.n (.n .e (some (.int .u64 10000000000000000)) .e) (some (.int .u64 100000000)) .e) (some (.int .u64 10000)) (.n .e (some (.int .u64 1000000000000)) .e)) (some (.int .u64 100)) (.n (.n (.n .e (some (.int .u64 1000000000000000000)) .e) (some (.int .u64 10000000000)) .e) (some (.int .u64 1000000)) (.n .e (some (.int .u64 100000000000000)) .e)))) 20)) .e)) (some (.cells (.n (.n (.n .e (some (.int .u8 3)) .e) (some (.int .u8 2)) .e) (some (.int .u8 0)) (.n .e (some (.int .u8 1)) .e)) 4)) (.n (.n (.n .e (some (.cells (.n (.n (.n (.n (.n (.n .e (some (.int .u8 9)) .e) (some (.int .u8 8)) .e) (some (.int .u8 3)) (.n .e (some (.int .u8 7)) .e)) (some (.int .u8 2)) (.n (.n .e (some (.int .u8 23)) .e) (some (.int .u8 15)) (.n .e (some (.int .u8 6)) .e))) (some (.int .u8 1)) (.n (.n (.n .e (some (.int .u8 27)) .e) (some (.int .u8 22)) (.n .e (some (.int .u8 12)) .e)) (some (.int .u8 14)) (.n (.n .e (some (.int .u8 19)) .e) (some (.int .u8 17)) (.n .e (some (.int .u8 5)) .e)))) (some (.int .u8 0)) (.n (.n (.n (.n .e (some (.int .u8 31)) .e) (some (.int .u8 30)) (.n .e (some (.int .u8 26)) .e)) (some (.int .u8 29)) (.n (.n .e (some (.int .u8 21)) .e) (some (.int .u8 25)) (.n .e (some (.int .u8 11)) .e))) (some (.int .u8 28)) (.n (.n (.n .e (some (.int .u8 13)) .e) (some (.int .u8 20)) (.n .e (some (.int .u8 18)) .e)) (some (.int .u8 24)) (.n (.n .e (some (.int .u8 16)) .e) (some (.int .u8 4)) (.n .e (some (.int .u8 10)) .e))))) 32)) .e) (some (.cells (.n .e (some (.ifc 250 (.ptr 10 0))) .e) 1)) .e) (some (.cells (.n (.n (.n (.n (.n (.n (.n .e (some (.int .u8 0)) .e) (some (.int .i64 2)) .e) (some (.int .i64 2)) (.n .e (some (.int .i64 2)) .e)) (some (.int .i64 0)) (.n (.n .e (some (.int .i64 1)) .e) (some (.int .u8 3)) (.n .e (some (.int .i64 (-1))) .e))) (some (.int .i64 0)) (.n (.n (.n (.n .e (some (.int .i64 2)) .e) (some (.int .i64 1)) .e) (some (.int .u8 1)) (.n .e (some (.int .i64 (-1))) .e)) (some (.int .i64 0)) (.n (.n .e (some (.int .u8 3)) .e) (some (.int .i64 0)) (.n .e (some (.int .i64 0)) .e)))) (some (.int .i64 (-1))) (.n (.n (.n (.n (.n .e (some (.int .i64 0)) .e) (some (.int .i64 0)) .e) (some (.int .i64 1)) (.n .e (some (.int .i64 0)) .e)) (some (.int .u8 1)) (.n (.n .e (some (.int .i64 0)) .e) (some (.int .i64 0)) (.n .e (some (.int .u8 1)) .e))) (some (.int .i64 (-1))) (.n (.n (.n .e (some (.int .i64 1)) .e) (some (.int .i64 1)) (.n .e (some (.int .u8 1)) .e)) (some (.int .i64 0)) (.n (.n .e (some (.int .i64 0)) .e) (some (.int .u8 2)) (.n .e (some (.int .i64 0)) .e))))) (some (.int .i64 0)) (.n (.n (.n (.n (.n (.n .e (some (.int .i64 0)) .e) (some (.int .i64 2)) .e) (some (.int .i64 0)) (.n .e (some (.int .i64 2)) .e)) (some (.int .i64 0)) (.n (.n .e (some (.int .u8 0)) .e) (some (.int .i64 0)) (.n .e (some (.int .i64 0)) .e))) (some (.int .i64 0)) (.n (.n (.n .e (some (.int .u8 2)) .e) (some (.int .i64 1)) (.n .e (some (.int .i64 0)) .e)) (some (.int .u8 3)) (.n (.n .e (some (.int .i64 0)) .e) (some (.int .i64 0)) (.n .e (some (.int .u8 2)) .e)))) (some (.int .u8 2)) (.n (.n (.n (.n (.n .e (some (.int .i64 0)) .e) (some (.int .i64 0)) .e) (some (.int .i64 0)) (.n .e (some (.int .i64 2)) .e)) (some (.int .i64 0)) (.n (.n .e (some (.int .i64 0)) .e) (some (.int .u8 0)) (.n .e (some (.int .i64 0)) .e))) (some (.int .u8 2)) (.n (.n (.n .e (some (.int .i64 0)) .e) (some (.int .i64 0)) (.n .e (some (.int .i64 0)) .e)) (some (.int .i64 0)) (.n (.n .e (some (.int .u8 1)) .e) (some (.int .i64 2)) (.n .e (some (.int .i64 0)) .e)))))) 68)) .e))
abbrev its:Its:=Go.Vm.X.itsL
theorem kob:j3q Tryz.prog gl its:=Go.Vm.X.itsL_ok
def ked:List (String×DataW Unit):=(Rows.segmentsKnownRow.laid.zipIdx.filter fun x=>[0,1,2,3,6,7].contains x.2).map (·.1)
theorem kr0:jx2 Tryz.prog ked=some es:=by kernel_rfl
theorem kku (mx:Int):put [.int .i64 mx] 0 .e=.n .e (some (.int .i64 mx)) .e:=by
 unfold put j88 j88
 simp only[jkq,Tr.setK_eq]
 rfl
theorem kjj (mx:Int):jjx (ex mx++es)=H0 mx:=by
 show Tr.set (jjx ((ex mx).tail++es)) 1 (.cells (put [.int .i64 mx] 0 .e) 1)=H0 mx
 rw[kku]
 kernel_rfl
def BB (mx:Int):Base:=⟨H0 mx,nx0⟩
theorem ksb (mx:Int):WF (BB mx).H0 (BB mx).nx0:=by
 show WF (H0 mx) nx0
 rw[←kjj]
 exact kcq (by kernel_rfl)
theorem mixed:Tryz.prog.follows .mixedOrders=true:=by kernel_rfl
end
end Vm
end Go.Proofs.YtonohffniohehaaGreatDoor
namespace Go.Proofs.YtonohffniohehaaGreatDoor
namespace Vm
open Go Go.Vm Go.Vm.W
noncomputable section
set_option maxRecDepth 100000
noncomputable def k3:CFn:=gk (cfn Tryz.prog gl Tryz.f3)
theorem krs:cfn Tryz.prog gl Tryz.f3=some k3:=jap (by kernel_rfl)
noncomputable def k4:CFn:=gk (cfn Tryz.prog gl Tryz.f4)
theorem krr:cfn Tryz.prog gl Tryz.f4=some k4:=jap (by kernel_rfl)
noncomputable def k5:CFn:=gk (cfn Tryz.prog gl Tryz.f5)
theorem krq:cfn Tryz.prog gl Tryz.f5=some k5:=jap (by kernel_rfl)
noncomputable def k6:CFn:=gk (cfn Tryz.prog gl Tryz.f6)
theorem krp:cfn Tryz.prog gl Tryz.f6=some k6:=jap (by kernel_rfl)
noncomputable def k7:CFn:=gk (cfn Tryz.prog gl Tryz.f7)
theorem kro:cfn Tryz.prog gl Tryz.f7=some k7:=jap (by kernel_rfl)
noncomputable def k8:CFn:=gk (cfn Tryz.prog gl Tryz.f8)
theorem krn:cfn Tryz.prog gl Tryz.f8=some k8:=jap (by kernel_rfl)
noncomputable def k9:CFn:=gk (cfn Tryz.prog gl Tryz.f9)
theorem krm:cfn Tryz.prog gl Tryz.f9=some k9:=jap (by kernel_rfl)
noncomputable def k10:CFn:=gk (cfn Tryz.prog gl Tryz.f10)
theorem koa:cfn Tryz.prog gl Tryz.f10=some k10:=jap (by kernel_rfl)
noncomputable def k11:CFn:=gk (cfn Tryz.prog gl Tryz.f11)
theorem kn8:cfn Tryz.prog gl Tryz.f11=some k11:=jap (by kernel_rfl)
noncomputable def k12:CFn:=gk (cfn Tryz.prog gl Tryz.f12)
theorem kn6:cfn Tryz.prog gl Tryz.f12=some k12:=jap (by kernel_rfl)
noncomputable def k13:CFn:=gk (cfn Tryz.prog gl Tryz.f13)
theorem kn3:cfn Tryz.prog gl Tryz.f13=some k13:=jap (by kernel_rfl)
noncomputable def k14:CFn:=gk (cfn Tryz.prog gl Tryz.f14)
theorem kn2:cfn Tryz.prog gl Tryz.f14=some k14:=jap (by kernel_rfl)
noncomputable def k15:CFn:=gk (cfn Tryz.prog gl Tryz.f15)
theorem knx:cfn Tryz.prog gl Tryz.f15=some k15:=jap (by kernel_rfl)
noncomputable def k16:CFn:=gk (cfn Tryz.prog gl Tryz.f16)
theorem knv:cfn Tryz.prog gl Tryz.f16=some k16:=jap (by kernel_rfl)
noncomputable def k17:CFn:=gk (cfn Tryz.prog gl Tryz.f17)
theorem knu:cfn Tryz.prog gl Tryz.f17=some k17:=jap (by kernel_rfl)
noncomputable def k18:CFn:=gk (cfn Tryz.prog gl Tryz.f18)
theorem knt:cfn Tryz.prog gl Tryz.f18=some k18:=jap (by kernel_rfl)
noncomputable def k19:CFn:=gk (cfn Tryz.prog gl Tryz.f19)
theorem kns:cfn Tryz.prog gl Tryz.f19=some k19:=jap (by kernel_rfl)
noncomputable def k20:CFn:=gk (cfn Tryz.prog gl Tryz.f20)
theorem knr:cfn Tryz.prog gl Tryz.f20=some k20:=jap (by kernel_rfl)
noncomputable def k21:CFn:=gk (cfn Tryz.prog gl Tryz.f21)
theorem knq:cfn Tryz.prog gl Tryz.f21=some k21:=jap (by kernel_rfl)
noncomputable def k22:CFn:=gk (cfn Tryz.prog gl Tryz.f22)
theorem knp:cfn Tryz.prog gl Tryz.f22=some k22:=jap (by kernel_rfl)
noncomputable def k23:CFn:=gk (cfn Tryz.prog gl Tryz.f23)
theorem kno:cfn Tryz.prog gl Tryz.f23=some k23:=jap (by kernel_rfl)
noncomputable def k24:CFn:=gk (cfn Tryz.prog gl Tryz.f24)
theorem knn:cfn Tryz.prog gl Tryz.f24=some k24:=jap (by kernel_rfl)
noncomputable def k25:CFn:=gk (cfn Tryz.prog gl Tryz.f25)
theorem knm:cfn Tryz.prog gl Tryz.f25=some k25:=jap (by kernel_rfl)
noncomputable def k26:CFn:=gk (cfn Tryz.prog gl Tryz.f26)
theorem knl:cfn Tryz.prog gl Tryz.f26=some k26:=jap (by kernel_rfl)
noncomputable def k27:CFn:=gk (cfn Tryz.prog gl Tryz.f27)
theorem knk:cfn Tryz.prog gl Tryz.f27=some k27:=jap (by kernel_rfl)
noncomputable def k28:CFn:=gk (cfn Tryz.prog gl Tryz.f28)
theorem knj:cfn Tryz.prog gl Tryz.f28=some k28:=jap (by kernel_rfl)
noncomputable def k29:CFn:=gk (cfn Tryz.prog gl Tryz.f29)
theorem kni:cfn Tryz.prog gl Tryz.f29=some k29:=jap (by kernel_rfl)
noncomputable def k30:CFn:=gk (cfn Tryz.prog gl Tryz.f30)
theorem knh:cfn Tryz.prog gl Tryz.f30=some k30:=jap (by kernel_rfl)
noncomputable def k31:CFn:=gk (cfn Tryz.prog gl Tryz.f31)
theorem kbf:cfn Tryz.prog gl Tryz.f31=some k31:=jap (by kernel_rfl)
noncomputable def k32:CFn:=gk (cfn Tryz.prog gl Tryz.f32)
theorem kng:cfn Tryz.prog gl Tryz.f32=some k32:=jap (by kernel_rfl)
noncomputable def k33:CFn:=gk (cfn Tryz.prog gl Tryz.f33)
theorem knf:cfn Tryz.prog gl Tryz.f33=some k33:=jap (by kernel_rfl)
noncomputable def k34:CFn:=gk (cfn Tryz.prog gl Tryz.f34)
theorem kne:cfn Tryz.prog gl Tryz.f34=some k34:=jap (by kernel_rfl)
noncomputable def k35:CFn:=gk (cfn Tryz.prog gl Tryz.f35)
theorem knd:cfn Tryz.prog gl Tryz.f35=some k35:=jap (by kernel_rfl)
noncomputable def k36:CFn:=gk (cfn Tryz.prog gl Tryz.f36)
theorem knc:cfn Tryz.prog gl Tryz.f36=some k36:=jap (by kernel_rfl)
noncomputable def k37:CFn:=gk (cfn Tryz.prog gl Tryz.f37)
theorem knb:cfn Tryz.prog gl Tryz.f37=some k37:=jap (by kernel_rfl)
noncomputable def k38:CFn:=gk (cfn Tryz.prog gl Tryz.f38)
theorem kna:cfn Tryz.prog gl Tryz.f38=some k38:=jap (by kernel_rfl)
noncomputable def k40:CFn:=gk (cfn Tryz.prog gl Tryz.f40)
theorem km9:cfn Tryz.prog gl Tryz.f40=some k40:=jap (by kernel_rfl)
noncomputable def k41:CFn:=gk (cfn Tryz.prog gl Tryz.f41)
theorem km8:cfn Tryz.prog gl Tryz.f41=some k41:=jap (by kernel_rfl)
noncomputable def k42:CFn:=gk (cfn Tryz.prog gl Tryz.f42)
theorem km7:cfn Tryz.prog gl Tryz.f42=some k42:=jap (by kernel_rfl)
noncomputable def k43:CFn:=gk (cfn Tryz.prog gl Tryz.f43)
theorem km6:cfn Tryz.prog gl Tryz.f43=some k43:=jap (by kernel_rfl)
noncomputable def k45:CFn:=gk (cfn Tryz.prog gl Tryz.f45)
theorem km5:cfn Tryz.prog gl Tryz.f45=some k45:=jap (by kernel_rfl)
noncomputable def k46:CFn:=gk (cfn Tryz.prog gl Tryz.f46)
theorem km4:cfn Tryz.prog gl Tryz.f46=some k46:=jap (by kernel_rfl)
noncomputable def k47:CFn:=gk (cfn Tryz.prog gl Tryz.f47)
theorem km3:cfn Tryz.prog gl Tryz.f47=some k47:=jap (by kernel_rfl)
noncomputable def k48:CFn:=gk (cfn Tryz.prog gl Tryz.f48)
theorem km2:cfn Tryz.prog gl Tryz.f48=some k48:=jap (by kernel_rfl)
noncomputable def k49:CFn:=gk (cfn Tryz.prog gl Tryz.f49)
theorem km1:cfn Tryz.prog gl Tryz.f49=some k49:=jap (by kernel_rfl)
noncomputable def k50:CFn:=gk (cfn Tryz.prog gl Tryz.f50)
theorem km0:cfn Tryz.prog gl Tryz.f50=some k50:=jap (by kernel_rfl)
noncomputable def k55:CFn:=gk (cfn Tryz.prog gl Tryz.f55)
theorem kmz:cfn Tryz.prog gl Tryz.f55=some k55:=jap (by kernel_rfl)
noncomputable def k56:CFn:=gk (cfn Tryz.prog gl Tryz.f56)
theorem kmy:cfn Tryz.prog gl Tryz.f56=some k56:=jap (by kernel_rfl)
noncomputable def k57:CFn:=gk (cfn Tryz.prog gl Tryz.f57)
theorem kmx:cfn Tryz.prog gl Tryz.f57=some k57:=jap (by kernel_rfl)
noncomputable def k58:CFn:=gk (cfn Tryz.prog gl Tryz.f58)
theorem kmw:cfn Tryz.prog gl Tryz.f58=some k58:=jap (by kernel_rfl)
noncomputable def k59:CFn:=gk (cfn Tryz.prog gl Tryz.f59 its)
theorem kmv:cfn Tryz.prog gl Tryz.f59 its=some k59:=jap (by kernel_rfl)
noncomputable def k60:CFn:=gk (cfn Tryz.prog gl Tryz.f60)
theorem kmu:cfn Tryz.prog gl Tryz.f60=some k60:=jap (by kernel_rfl)
noncomputable def k61:CFn:=gk (cfn Tryz.prog gl Tryz.f61)
theorem kmt:cfn Tryz.prog gl Tryz.f61=some k61:=jap (by kernel_rfl)
noncomputable def k62:CFn:=gk (cfn Tryz.prog gl Tryz.f62)
theorem kms:cfn Tryz.prog gl Tryz.f62=some k62:=jap (by kernel_rfl)
noncomputable def k63:CFn:=gk (cfn Tryz.prog gl Tryz.f63)
theorem kmr:cfn Tryz.prog gl Tryz.f63=some k63:=jap (by kernel_rfl)
noncomputable def k64:CFn:=gk (cfn Tryz.prog gl Tryz.f64)
theorem kmq:cfn Tryz.prog gl Tryz.f64=some k64:=jap (by kernel_rfl)
noncomputable def k65:CFn:=gk (cfn Tryz.prog gl Tryz.f65)
theorem kmp:cfn Tryz.prog gl Tryz.f65=some k65:=jap (by kernel_rfl)
noncomputable def k66:CFn:=gk (cfn Tryz.prog gl Tryz.f66)
theorem kmo:cfn Tryz.prog gl Tryz.f66=some k66:=jap (by kernel_rfl)
noncomputable def k67:CFn:=gk (cfn Tryz.prog gl Tryz.f67)
theorem kmn:cfn Tryz.prog gl Tryz.f67=some k67:=jap (by kernel_rfl)
noncomputable def k68:CFn:=gk (cfn Tryz.prog gl Tryz.f68)
theorem kmm:cfn Tryz.prog gl Tryz.f68=some k68:=jap (by kernel_rfl)
noncomputable def k69:CFn:=gk (cfn Tryz.prog gl Tryz.f69)
theorem kml:cfn Tryz.prog gl Tryz.f69=some k69:=jap (by kernel_rfl)
noncomputable def k70:CFn:=gk (cfn Tryz.prog gl Tryz.f70)
theorem kmk:cfn Tryz.prog gl Tryz.f70=some k70:=jap (by kernel_rfl)
noncomputable def k71:CFn:=gk (cfn Tryz.prog gl Tryz.f71)
theorem kmj:cfn Tryz.prog gl Tryz.f71=some k71:=jap (by kernel_rfl)
noncomputable def k72:CFn:=gk (cfn Tryz.prog gl Tryz.f72)
theorem kmi:cfn Tryz.prog gl Tryz.f72=some k72:=jap (by kernel_rfl)
noncomputable def k75:CFn:=gk (cfn Tryz.prog gl Tryz.f75)
theorem kmh:cfn Tryz.prog gl Tryz.f75=some k75:=jap (by kernel_rfl)
noncomputable def k77:CFn:=gk (cfn Tryz.prog gl Tryz.f77)
theorem kmg:cfn Tryz.prog gl Tryz.f77=some k77:=jap (by kernel_rfl)
noncomputable def k84:CFn:=gk (cfn Tryz.prog gl Tryz.f84)
theorem kmf:cfn Tryz.prog gl Tryz.f84=some k84:=jap (by kernel_rfl)
noncomputable def k85:CFn:=gk (cfn Tryz.prog gl Tryz.f85)
theorem kme:cfn Tryz.prog gl Tryz.f85=some k85:=jap (by kernel_rfl)
noncomputable def k86:CFn:=gk (cfn Tryz.prog gl Tryz.f86)
theorem kmd:cfn Tryz.prog gl Tryz.f86=some k86:=jap (by kernel_rfl)
noncomputable def k87:CFn:=gk (cfn Tryz.prog gl Tryz.f87)
theorem kmc:cfn Tryz.prog gl Tryz.f87=some k87:=jap (by kernel_rfl)
noncomputable def k88:CFn:=gk (cfn Tryz.prog gl Tryz.f88)
theorem kmb:cfn Tryz.prog gl Tryz.f88=some k88:=jap (by kernel_rfl)
noncomputable def k89:CFn:=gk (cfn Tryz.prog gl Tryz.f89)
theorem kma:cfn Tryz.prog gl Tryz.f89=some k89:=jap (by kernel_rfl)
noncomputable def k90:CFn:=gk (cfn Tryz.prog gl Tryz.f90)
theorem kl9:cfn Tryz.prog gl Tryz.f90=some k90:=jap (by kernel_rfl)
noncomputable def k91:CFn:=gk (cfn Tryz.prog gl Tryz.f91)
theorem kbe:cfn Tryz.prog gl Tryz.f91=some k91:=jap (by kernel_rfl)
noncomputable def k92:CFn:=gk (cfn Tryz.prog gl Tryz.f92)
theorem kl8:cfn Tryz.prog gl Tryz.f92=some k92:=jap (by kernel_rfl)
noncomputable def k93:CFn:=gk (cfn Tryz.prog gl Tryz.f93)
theorem kl7:cfn Tryz.prog gl Tryz.f93=some k93:=jap (by kernel_rfl)
noncomputable def k94:CFn:=gk (cfn Tryz.prog gl Tryz.f94)
theorem kl6:cfn Tryz.prog gl Tryz.f94=some k94:=jap (by kernel_rfl)
noncomputable def kpb:CFn:=gk (cfn Tryz.prog gl Tryz.f105)
theorem kih:cfn Tryz.prog gl Tryz.f105=some kpb:=jap (by kernel_rfl)
noncomputable def kn9:CFn:=gk (cfn Tryz.prog gl Tryz.f114)
theorem kig:cfn Tryz.prog gl Tryz.f114=some kn9:=jap (by kernel_rfl)
noncomputable def kn7:CFn:=gk (cfn Tryz.prog gl Tryz.f128)
theorem kif:cfn Tryz.prog gl Tryz.f128=some kn7:=jap (by kernel_rfl)
noncomputable def kpa:CFn:=gk (cfn Tryz.prog gl Tryz.f129)
theorem kie:cfn Tryz.prog gl Tryz.f129=some kpa:=jap (by kernel_rfl)
noncomputable def kdf:CFn:=gk (cfn Tryz.prog gl Tryz.f130)
theorem j45:cfn Tryz.prog gl Tryz.f130=some kdf:=jap (by kernel_rfl)
noncomputable def kn5:CFn:=gk (cfn Tryz.prog gl Tryz.f131)
theorem kid:cfn Tryz.prog gl Tryz.f131=some kn5:=jap (by kernel_rfl)
noncomputable def kn4:CFn:=gk (cfn Tryz.prog gl Tryz.f132)
theorem kic:cfn Tryz.prog gl Tryz.f132=some kn4:=jap (by kernel_rfl)
noncomputable def kde:CFn:=gk (cfn Tryz.prog gl Tryz.f133)
theorem j44:cfn Tryz.prog gl Tryz.f133=some kde:=jap (by kernel_rfl)
noncomputable def kdd:CFn:=gk (cfn Tryz.prog gl Tryz.f134)
theorem j43:cfn Tryz.prog gl Tryz.f134=some kdd:=jap (by kernel_rfl)
noncomputable def kdc:CFn:=gk (cfn Tryz.prog gl Tryz.f135)
theorem j42:cfn Tryz.prog gl Tryz.f135=some kdc:=jap (by kernel_rfl)
noncomputable def kdb:CFn:=gk (cfn Tryz.prog gl Tryz.f136)
theorem j41:cfn Tryz.prog gl Tryz.f136=some kdb:=jap (by kernel_rfl)
noncomputable def kda:CFn:=gk (cfn Tryz.prog gl Tryz.f137)
theorem j40:cfn Tryz.prog gl Tryz.f137=some kda:=jap (by kernel_rfl)
noncomputable def kn1:CFn:=gk (cfn Tryz.prog gl Tryz.f154)
theorem kib:cfn Tryz.prog gl Tryz.f154=some kn1:=jap (by kernel_rfl)
noncomputable def kn0:CFn:=gk (cfn Tryz.prog gl Tryz.f155)
theorem kia:cfn Tryz.prog gl Tryz.f155=some kn0:=jap (by kernel_rfl)
noncomputable def knz:CFn:=gk (cfn Tryz.prog gl Tryz.f156)
theorem kh9:cfn Tryz.prog gl Tryz.f156=some knz:=jap (by kernel_rfl)
noncomputable def ko9:CFn:=gk (cfn Tryz.prog gl Tryz.f157)
theorem kh8:cfn Tryz.prog gl Tryz.f157=some ko9:=jap (by kernel_rfl)
noncomputable def kny:CFn:=gk (cfn Tryz.prog gl Tryz.f158)
theorem kh7:cfn Tryz.prog gl Tryz.f158=some kny:=jap (by kernel_rfl)
noncomputable def kc9:CFn:=gk (cfn Tryz.prog gl Tryz.f159)
theorem j4z:cfn Tryz.prog gl Tryz.f159=some kc9:=jap (by kernel_rfl)
noncomputable def knw:CFn:=gk (cfn Tryz.prog gl Tryz.f166)
theorem kh6:cfn Tryz.prog gl Tryz.f166=some knw:=jap (by kernel_rfl)
noncomputable def ko8:CFn:=gk (cfn Tryz.prog gl Tryz.f167)
theorem kh5:cfn Tryz.prog gl Tryz.f167=some ko8:=jap (by kernel_rfl)
noncomputable def ko7:CFn:=gk (cfn Tryz.prog gl Tryz.f168)
theorem kh4:cfn Tryz.prog gl Tryz.f168=some ko7:=jap (by kernel_rfl)
noncomputable def ko6:CFn:=gk (cfn Tryz.prog gl Tryz.f169)
theorem kh3:cfn Tryz.prog gl Tryz.f169=some ko6:=jap (by kernel_rfl)
noncomputable def ko5:CFn:=gk (cfn Tryz.prog gl Tryz.f170)
theorem kh2:cfn Tryz.prog gl Tryz.f170=some ko5:=jap (by kernel_rfl)
end
end Vm
end Go.Proofs.YtonohffniohehaaGreatDoor
namespace Go.Proofs.YtonohffniohehaaGreatDoor
namespace Vm
open Go Go.Vm Go.Vm.W
noncomputable section
set_option maxRecDepth 100000
attribute [local irreducible] k3 k4 k5 k6 k7 k8 k9 k10 k11 k12 k13 k14 k15 k16 k17 k18 k19 k20 k21 k22 k23 k24 k25 k26 k27 k28 k29 k30 k31 k32 k33 k34 k35 k36 k37 k38 k40 k41 k42 k43 k45 k46 k47 k48 k49 k50 k55 k56 k57 k58 k59 k60 k61 k62 k63 k64 k65 k66 k67 k68 k69 k70 k71 k72 k75 k77 k84 k85 k86 k87 k88 k89 k90 k91 k92 k93 k94 kpb kn9 kn7 kpa kdf kn5 kn4 kde kdd kdc kdb kda kn1 kn0 knz ko9 kny kc9 knw ko8 ko7 ko6 ko5
def prog:Tr CFn:=(.n (.n (.n (.n (.n (.n (.n .e (some k63) .e) (some k31) (.n (.n .e (some kc9) .e) none .e)) (some k15) (.n .e (some k47) .e)) (some k7) (.n (.n (.n (.n .e (some kdc) .e) (some k71) .e) none (.n (.n .e (some ko8) .e) none .e)) (some k23) (.n (.n .e (some k87) .e) (some k55) .e))) (some k3) (.n (.n (.n (.n (.n .e (some kn5) .e) (some k67) .e) (some k35) .e) (some k19) .e) (some k11) (.n (.n (.n .e (some k75) .e) (some k43) .e) (some k27) (.n (.n (.n .e (some kn0) .e) (some k91) .e) (some k59) .e)))) none (.n (.n (.n (.n (.n (.n .e (some kpa) .e) (some k65) .e) (some k33) .e) (some k17) (.n .e (some k49) .e)) (some k9) (.n (.n (.n (.n .e (some kda) .e) none .e) (some k41) (.n (.n .e (some ko6) .e) (some kpb) .e)) (some k25) (.n (.n .e (some k89) .e) (some k57) .e))) (some k5) (.n (.n (.n (.n (.n .e (some kde) .e) (some k69) .e) (some k37) .e) (some k21) (.n (.n .e (some k85) .e) none .e)) (some k13) (.n (.n (.n .e (some k77) .e) (some k45) .e) (some k29) (.n (.n (.n .e (some ko9) .e) (some k93) .e) (some k61) .e))))) none (.n (.n (.n (.n (.n (.n (.n .e (some kn7) .e) (some k64) .e) (some k32) .e) (some k16) (.n .e (some k48) .e)) (some k8) (.n (.n (.n (.n .e (some kdb) .e) (some k72) .e) (some k40) (.n (.n .e (some ko7) .e) none .e)) (some k24) (.n (.n .e (some k88) .e) (some k56) .e))) (some k4) (.n (.n (.n (.n (.n .e (some kn4) .e) (some k68) .e) (some k36) .e) (some k20) (.n (.n .e (some k84) .e) none .e)) (some k12) (.n .e (some k28) (.n (.n (.n .e (some knz) .e) (some k92) .e) (some k60) .e)))) none (.n (.n (.n (.n (.n (.n .e (some kdf) .e) (some k66) .e) (some k34) .e) (some k18) (.n .e (some k50) (.n .e (some kn9) .e))) (some k10) (.n (.n .e (some k42) (.n (.n .e (some ko5) .e) none .e)) (some k26) (.n (.n (.n .e (some kn1) .e) (some k90) .e) (some k58) .e))) (some k6) (.n (.n (.n (.n (.n .e (some kdd) .e) (some k70) .e) (some k38) (.n (.n .e (some knw) .e) none .e)) (some k22) (.n (.n .e (some k86) .e) none .e)) (some k14) (.n (.n .e (some k46) .e) (some k30) (.n (.n (.n .e (some kny) .e) (some k94) .e) (some k62) .e))))))
def kl:List (Nat×CFn):=[(3,k3),(4,k4),(5,k5),(6,k6),(7,k7),(8,k8),(9,k9),(10,k10),(11,k11),(12,k12),(13,k13),(14,k14),(15,k15),(16,k16),(17,k17),(18,k18),(19,k19),(20,k20),(21,k21),(22,k22),(23,k23),(24,k24),(25,k25),(26,k26),(27,k27),(28,k28),(29,k29),(30,k30),(31,k31),(32,k32),(33,k33),(34,k34),(35,k35),(36,k36),(37,k37),(38,k38),(40,k40),(41,k41),(42,k42),(43,k43),(45,k45),(46,k46),(47,k47),(48,k48),(49,k49),(50,k50),(55,k55),(56,k56),(57,k57),(58,k58),(59,k59),(60,k60),(61,k61),(62,k62),(63,k63),(64,k64),(65,k65),(66,k66),(67,k67),(68,k68),(69,k69),(70,k70),(71,k71),(72,k72),(75,k75),(77,k77),(84,k84),(85,k85),(86,k86),(87,k87),(88,k88),(89,k89),(90,k90),(91,k91),(92,k92),(93,k93),(94,k94),(105,kpb),(114,kn9),(128,kn7),(129,kpa),(130,kdf),(131,kn5),(132,kn4),(133,kde),(134,kdd),(135,kdc),(136,kdb),(137,kda),(154,kn1),(155,kn0),(156,knz),(157,ko9),(158,kny),(159,kc9),(166,knw),(167,ko8),(168,ko7),(169,ko6),(170,ko5)]
theorem krl:ksc Tryz.prog gl its kl:=⟨⟨Tryz.f3,Tryz.func3,.inl krs⟩,⟨Tryz.f4,Tryz.func4,.inl krr⟩,⟨Tryz.f5,Tryz.func5,.inl krq⟩,⟨Tryz.f6,Tryz.func6,.inl krp⟩,⟨Tryz.f7,Tryz.func7,.inl kro⟩,⟨Tryz.f8,Tryz.func8,.inl krn⟩,⟨Tryz.f9,Tryz.func9,.inl krm⟩,⟨Tryz.f10,Tryz.func10,.inl koa⟩,⟨Tryz.f11,Tryz.func11,.inl kn8⟩,⟨Tryz.f12,Tryz.func12,.inl kn6⟩,⟨Tryz.f13,Tryz.func13,.inl kn3⟩,⟨Tryz.f14,Tryz.func14,.inl kn2⟩,⟨Tryz.f15,Tryz.func15,.inl knx⟩,⟨Tryz.f16,Tryz.func16,.inl knv⟩,⟨Tryz.f17,Tryz.func17,.inl knu⟩,⟨Tryz.f18,Tryz.func18,.inl knt⟩,⟨Tryz.f19,Tryz.func19,.inl kns⟩,⟨Tryz.f20,Tryz.func20,.inl knr⟩,⟨Tryz.f21,Tryz.func21,.inl knq⟩,⟨Tryz.f22,Tryz.func22,.inl knp⟩,⟨Tryz.f23,Tryz.func23,.inl kno⟩,⟨Tryz.f24,Tryz.func24,.inl knn⟩,⟨Tryz.f25,Tryz.func25,.inl knm⟩,⟨Tryz.f26,Tryz.func26,.inl knl⟩,⟨Tryz.f27,Tryz.func27,.inl knk⟩,⟨Tryz.f28,Tryz.func28,.inl knj⟩,⟨Tryz.f29,Tryz.func29,.inl kni⟩,⟨Tryz.f30,Tryz.func30,.inl knh⟩,⟨Tryz.f31,Tryz.func31,.inl kbf⟩,⟨Tryz.f32,Tryz.func32,.inl kng⟩,⟨Tryz.f33,Tryz.func33,.inl knf⟩,⟨Tryz.f34,Tryz.func34,.inl kne⟩,⟨Tryz.f35,Tryz.func35,.inl knd⟩,⟨Tryz.f36,Tryz.func36,.inl knc⟩,⟨Tryz.f37,Tryz.func37,.inl knb⟩,⟨Tryz.f38,Tryz.func38,.inl kna⟩,⟨Tryz.f40,Tryz.func40,.inl km9⟩,⟨Tryz.f41,Tryz.func41,.inl km8⟩,⟨Tryz.f42,Tryz.func42,.inl km7⟩,⟨Tryz.f43,Tryz.func43,.inl km6⟩,⟨Tryz.f45,Tryz.func45,.inl km5⟩,⟨Tryz.f46,Tryz.func46,.inl km4⟩,⟨Tryz.f47,Tryz.func47,.inl km3⟩,⟨Tryz.f48,Tryz.func48,.inl km2⟩,⟨Tryz.f49,Tryz.func49,.inl km1⟩,⟨Tryz.f50,Tryz.func50,.inl km0⟩,⟨Tryz.f55,Tryz.func55,.inl kmz⟩,⟨Tryz.f56,Tryz.func56,.inl kmy⟩,⟨Tryz.f57,Tryz.func57,.inl kmx⟩,⟨Tryz.f58,Tryz.func58,.inl kmw⟩,⟨Tryz.f59,Tryz.func59,.inr (.inl kmv)⟩,⟨Tryz.f60,Tryz.func60,.inl kmu⟩,⟨Tryz.f61,Tryz.func61,.inl kmt⟩,⟨Tryz.f62,Tryz.func62,.inl kms⟩,⟨Tryz.f63,Tryz.func63,.inl kmr⟩,⟨Tryz.f64,Tryz.func64,.inl kmq⟩,⟨Tryz.f65,Tryz.func65,.inl kmp⟩,⟨Tryz.f66,Tryz.func66,.inl kmo⟩,⟨Tryz.f67,Tryz.func67,.inl kmn⟩,⟨Tryz.f68,Tryz.func68,.inl kmm⟩,⟨Tryz.f69,Tryz.func69,.inl kml⟩,⟨Tryz.f70,Tryz.func70,.inl kmk⟩,⟨Tryz.f71,Tryz.func71,.inl kmj⟩,⟨Tryz.f72,Tryz.func72,.inl kmi⟩,⟨Tryz.f75,Tryz.func75,.inl kmh⟩,⟨Tryz.f77,Tryz.func77,.inl kmg⟩,⟨Tryz.f84,Tryz.func84,.inl kmf⟩,⟨Tryz.f85,Tryz.func85,.inl kme⟩,⟨Tryz.f86,Tryz.func86,.inl kmd⟩,⟨Tryz.f87,Tryz.func87,.inl kmc⟩,⟨Tryz.f88,Tryz.func88,.inl kmb⟩,⟨Tryz.f89,Tryz.func89,.inl kma⟩,⟨Tryz.f90,Tryz.func90,.inl kl9⟩,⟨Tryz.f91,Tryz.func91,.inl kbe⟩,⟨Tryz.f92,Tryz.func92,.inl kl8⟩,⟨Tryz.f93,Tryz.func93,.inl kl7⟩,⟨Tryz.f94,Tryz.func94,.inl kl6⟩,⟨Tryz.f105,Tryz.func105,.inl kih⟩,⟨Tryz.f114,Tryz.func114,.inl kig⟩,⟨Tryz.f128,Tryz.func128,.inl kif⟩,⟨Tryz.f129,Tryz.func129,.inl kie⟩,⟨Tryz.f130,Tryz.func130,.inl j45⟩,⟨Tryz.f131,Tryz.func131,.inl kid⟩,⟨Tryz.f132,Tryz.func132,.inl kic⟩,⟨Tryz.f133,Tryz.func133,.inl j44⟩,⟨Tryz.f134,Tryz.func134,.inl j43⟩,⟨Tryz.f135,Tryz.func135,.inl j42⟩,⟨Tryz.f136,Tryz.func136,.inl j41⟩,⟨Tryz.f137,Tryz.func137,.inl j40⟩,⟨Tryz.f154,Tryz.func154,.inl kib⟩,⟨Tryz.f155,Tryz.func155,.inl kia⟩,⟨Tryz.f156,Tryz.func156,.inl kh9⟩,⟨Tryz.f157,Tryz.func157,.inl kh8⟩,⟨Tryz.f158,Tryz.func158,.inl kh7⟩,⟨Tryz.f159,Tryz.func159,.inl j4z⟩,⟨Tryz.f166,Tryz.func166,.inl kh6⟩,⟨Tryz.f167,Tryz.func167,.inl kh5⟩,⟨Tryz.f168,Tryz.func168,.inl kh4⟩,⟨Tryz.f169,Tryz.func169,.inl kh3⟩,⟨Tryz.f170,Tryz.func170,.inl kh2⟩,trivial⟩
theorem khj:prog=ofK kl:=by kernel_rfl
theorem ju1:j3l Tryz.prog gl prog:=khj▸ju2 kob krl
end
end Vm
end Go.Proofs.YtonohffniohehaaGreatDoor
