/-
  The program's text for the machine. (Printed by a program.)
  The program's text for the machine. (Printed by a program.)
  The program's text for the machine. (Printed by a program.)
-/
import Derived.Test.YtahplmacekfjgaaGreatDoorRows
import Derived.Test.YtahplmacekfjgaaGreatDoorVmWG
set_option linter.unusedSimpArgs false
set_option linter.unusedVariables false
set_option linter.unusedSectionVars false
set_option linter.unnecessarySimpa false
namespace Go.Proofs.YtahplmacekfjgaaGreatDoor
namespace Vm
open Go Go.Vm Go.Vm.W
noncomputable section
set_option maxRecDepth 100000
def gl:List Nat:=[0,1,2,3,4,5,6,7]
def nx0:Nat:=10
def ex (mx:Int):List (Nat×List AV):=[(3,[(.int .i64 mx)]),(2,[(.ifc 191 (.ptr 8 0))]),(1,[(.ifc 191 (.ptr 9 0))])]
def es:List (Nat×List AV):=[(4,[(.int .u8 0),(.int .u8 1),(.int .u8 28),(.int .u8 2),(.int .u8 29),(.int .u8 14),(.int .u8 24),(.int .u8 3),(.int .u8 30),(.int .u8 22),(.int .u8 20),(.int .u8 15),(.int .u8 25),(.int .u8 17),(.int .u8 4),(.int .u8 8),(.int .u8 31),(.int .u8 27),(.int .u8 13),(.int .u8 23),(.int .u8 21),(.int .u8 19),(.int .u8 16),(.int .u8 7),(.int .u8 26),(.int .u8 12),(.int .u8 18),(.int .u8 6),(.int .u8 11),(.int .u8 5),(.int .u8 10),(.int .u8 9)]),(5,[(.int .u8 0),(.int .u8 1),(.int .u8 56),(.int .u8 2),(.int .u8 57),(.int .u8 49),(.int .u8 28),(.int .u8 3),(.int .u8 61),(.int .u8 58),(.int .u8 42),(.int .u8 50),(.int .u8 38),(.int .u8 29),(.int .u8 17),(.int .u8 4),(.int .u8 62),(.int .u8 47),(.int .u8 59),(.int .u8 36),(.int .u8 45),(.int .u8 43),(.int .u8 51),(.int .u8 22),(.int .u8 53),(.int .u8 39),(.int .u8 33),(.int .u8 30),(.int .u8 24),(.int .u8 18),(.int .u8 12),(.int .u8 5),(.int .u8 63),(.int .u8 55),(.int .u8 48),(.int .u8 27),(.int .u8 60),(.int .u8 41),(.int .u8 37),(.int .u8 16),(.int .u8 46),(.int .u8 35),(.int .u8 44),(.int .u8 21),(.int .u8 52),(.int .u8 32),(.int .u8 23),(.int .u8 11),(.int .u8 54),(.int .u8 26),(.int .u8 40),(.int .u8 15),(.int .u8 34),(.int .u8 20),(.int .u8 31),(.int .u8 10),(.int .u8 25),(.int .u8 14),(.int .u8 19),(.int .u8 9),(.int .u8 13),(.int .u8 8),(.int .u8 7),(.int .u8 6)]),(0,[(.int .u64 1),(.int .u64 10),(.int .u64 100),(.int .u64 1000),(.int .u64 10000),(.int .u64 100000),(.int .u64 1000000),(.int .u64 10000000),(.int .u64 100000000),(.int .u64 1000000000),(.int .u64 10000000000),(.int .u64 100000000000),(.int .u64 1000000000000),(.int .u64 10000000000000),(.int .u64 100000000000000),(.int .u64 1000000000000000),(.int .u64 10000000000000000),(.int .u64 100000000000000000),(.int .u64 1000000000000000000),(.int .u64 10000000000000000000)]),(7,[(.int .u8 128),(.int .u8 191),(.int .u8 160),(.int .u8 191),(.int .u8 128),(.int .u8 159),(.int .u8 144),(.int .u8 191),(.int .u8 128),(.int .u8 143),(.int .u8 0),(.int .u8 0),(.int .u8 0),(.int .u8 0),(.int .u8 0),(.int .u8 0),(.int .u8 0),(.int .u8 0),(.int .u8 0),(.int .u8 0),(.int .u8 0),(.int .u8 0),(.int .u8 0),(.int .u8 0),(.int .u8 0),(.int .u8 0),(.int .u8 0),(.int .u8 0),(.int .u8 0),(.int .u8 0),(.int .u8 0),(.int .u8 0)])]
def H0 (mx:Int):Tr Blk:=(.n (.n (.n (.n .e (some (.cells (.n (.n (.n (.n (.n (.n .e (some (.int .u8 0)) .e) (some (.int .u8 0)) .e) (some (.int .u8 191)) (.n .e (some (.int .u8 0)) .e)) (some (.int .u8 191)) (.n (.n .e (some (.int .u8 0)) .e) (some (.int .u8 0)) (.n .e (some (.int .u8 0)) .e))) (some (.int .u8 191)) (.n (.n (.n .e (some (.int .u8 0)) .e) (some (.int .u8 143)) (.n .e (some (.int .u8 0)) .e)) (some (.int .u8 159)) (.n (.n .e (some (.int .u8 0)) .e) (some (.int .u8 0)) (.n .e (some (.int .u8 0)) .e)))) (some (.int .u8 128)) (.n (.n (.n (.n .e (some (.int .u8 0)) .e) (some (.int .u8 128)) (.n .e (some (.int .u8 0)) .e)) (some (.int .u8 128)) (.n (.n .e (some (.int .u8 0)) .e) (some (.int .u8 0)) (.n .e (some (.int .u8 0)) .e))) (some (.int .u8 160)) (.n (.n (.n .e (some (.int .u8 0)) .e) (some (.int .u8 0)) (.n .e (some (.int .u8 0)) .e)) (some (.int .u8 144)) (.n (.n .e (some (.int .u8 0)) .e) (some (.int .u8 0)) (.n .e (some (.int .u8 0)) .e))))) 32)) .e) (some (.cells (.n .e (some (.int .i64 mx)) .e) 1)) .e) (some (.cells (.n .e (some (.ifc 191 (.ptr 9 0))) .e) 1)) (.n .e (some (.cells (.n (.n (.n (.n (.n (.n (.n .e (some (.int .u8 6)) .e) (some (.int .u8 5)) .e) (some (.int .u8 4)) (.n .e (some (.int .u8 11)) .e)) (some (.int .u8 3)) (.n (.n .e (some (.int .u8 16)) .e) (some (.int .u8 22)) (.n .e (some (.int .u8 10)) .e))) (some (.int .u8 2)) (.n (.n (.n .e (some (.int .u8 27)) .e) (some (.int .u8 36)) (.n .e (some (.int .u8 15)) .e)) (some (.int .u8 50)) (.n (.n .e (some (.int .u8 21)) .e) (some (.int .u8 30)) (.n .e (some (.int .u8 9)) .e)))) (some (.int .u8 1)) (.n (.n (.n (.n .e (some (.int .u8 55)) .e) (some (.int .u8 47)) (.n .e (some (.int .u8 26)) .e)) (some (.int .u8 58)) (.n (.n .e (some (.int .u8 35)) .e) (some (.int .u8 39)) (.n .e (some (.int .u8 14)) .e))) (some (.int .u8 49)) (.n (.n (.n .e (some (.int .u8 41)) .e) (some (.int .u8 43)) (.n .e (some (.int .u8 20)) .e)) (some (.int .u8 29)) (.n (.n .e (some (.int .u8 32)) .e) (some (.int .u8 18)) (.n .e (some (.int .u8 8)) .e))))) (some (.int .u8 0)) (.n (.n (.n (.n (.n .e (some (.int .u8 63)) .e) (some (.int .u8 62)) (.n .e (some (.int .u8 54)) .e)) (some (.int .u8 61)) (.n (.n .e (some (.int .u8 46)) .e) (some (.int .u8 53)) (.n .e (some (.int .u8 25)) .e))) (some (.int .u8 57)) (.n (.n (.n .e (some (.int .u8 60)) .e) (some (.int .u8 45)) (.n .e (some (.int .u8 34)) .e)) (some (.int .u8 38)) (.n (.n .e (some (.int .u8 52)) .e) (some (.int .u8 24)) (.n .e (some (.int .u8 13)) .e)))) (some (.int .u8 56)) (.n (.n (.n (.n .e (some (.int .u8 48)) .e) (some (.int .u8 59)) (.n .e (some (.int .u8 40)) .e)) (some (.int .u8 42)) (.n (.n .e (some (.int .u8 44)) .e) (some (.int .u8 33)) (.n .e (some (.int .u8 19)) .e))) (some (.int .u8 28)) (.n (.n (.n .e (some (.int .u8 37)) .e) (some (.int .u8 51)) (.n .e (some (.int .u8 31)) .e)) (some (.int .u8 17)) (.n (.n .e (some (.int .u8 23)) .e) (some (.int .u8 12)) (.n .e (some (.int .u8 7)) .e)))))) 64)) .e)) (some (.cells (.n (.n (.n (.n (.n .e (some (.int .u64 1000000000000000)) .e) (some (.int .u64 10000000)) .e) (some (.int .u64 1000)) (.n (.n .e (some (.int .u64 10000000000000000000)) .e) (some (.int .u64 100000000000)) .e)) (some (.int .u64 10)) (.n (.n (.n .e (some (.int .u64 100000000000000000)) .e) (some (.int .u64 1000000000)) .e) (some (.int .u64 100000)) (.n .e (some (.int .u64 10000000000000)) .e))) (some (.int .u64 1)) (.n (.n (.n (.n .e (some (.int .u64 10000000000000000)) .e) (some (.int .u64 100000000)) .e) (some (.int .u64 10000)) (.n .e (some (.int .u64 1000000000000)) .e)) (some (.int .u64 100)) (.n (.n (.n .e (some (.int .u64 1000000000000000000)) .e) (some (.int .u64 10000000000)) .e) (some (.int .u64 1000000)) (.n .e (some (.int .u64 100000000000000)) .e)))) 20)) (.n (.n .e (some (.cells (.n (.n (.n (.n (.n (.n .e (some (.int .u8 9)) .e) (some (.int .u8 8)) .e) (some (.int .u8 3)) (.n .e (some (.int .u8 7)) .e)) (some (.int .u8 2)) (.n (.n .e (some (.int .u8 23)) .e) (some (.int .u8 15)) (.n .e (some (.int .u8 6)) .e))) (some (.int .u8 1)) (.n (.n (.n .e (some (.int .u8 27)) .e) (some (.int .u8 22)) (.n .e (some (.int .u8 12)) .e)) (some (.int .u8 14)) (.n (.n .e (some (.int .u8 19)) .e) (some (.int .u8 17)) (.n .e (some (.int .u8 5)) .e)))) (some (.int .u8 0)) (.n (.n (.n (.n .e (some (.int .u8 31)) .e) (some (.int .u8 30)) (.n .e (some (.int .u8 26)) .e)) (some (.int .u8 29)) (.n (.n .e (some (.int .u8 21)) .e) (some (.int .u8 25)) (.n .e (some (.int .u8 11)) .e))) (some (.int .u8 28)) (.n (.n (.n .e (some (.int .u8 13)) .e) (some (.int .u8 20)) (.n .e (some (.int .u8 18)) .e)) (some (.int .u8 24)) (.n (.n .e (some (.int .u8 16)) .e) (some (.int .u8 4)) (.n .e (some (.int .u8 10)) .e))))) 32)) .e) (some (.cells (.n .e (some (.ifc 191 (.ptr 8 0))) .e) 1)) .e))
abbrev its:Its:=[]
theorem kg7:j09 Tryz.prog gl its:=j1y
def j89:List (String×DataW Unit):=(Rows.netsTextRow.laid.zipIdx.filter fun x=>[0,1,2,3].contains x.2).map (·.1)
theorem ki8:jur Tryz.prog j89=some es:=by kernel_rfl
theorem ke5 (mx:Int):put [.int .i64 mx] 0 .e=.n .e (some (.int .i64 mx)) .e:=by
 unfold put j4r j4r
 simp only[jjy,Tr.setK_eq]
 rfl
theorem kdr (mx:Int):jjk (ex mx++es)=H0 mx:=by
 show Tr.set (jjk ((ex mx).tail++es)) 3 (.cells (put [.int .i64 mx] 0 .e) 1)=H0 mx
 rw[ke5]
 kernel_rfl
def BB (mx:Int):Base:=⟨H0 mx,nx0⟩
theorem kjm (mx:Int):WF (BB mx).H0 (BB mx).nx0:=by
 show WF (H0 mx) nx0
 rw[←kdr]
 exact kdi (by kernel_rfl)
theorem mixed:Tryz.prog.follows .mixedOrders=true:=by kernel_rfl
end
end Vm
end Go.Proofs.YtahplmacekfjgaaGreatDoor
namespace Go.Proofs.YtahplmacekfjgaaGreatDoor
namespace Vm
open Go Go.Vm Go.Vm.W
noncomputable section
set_option maxRecDepth 100000
noncomputable def k5:CFn:=gk (cfn Tryz.prog gl Tryz.f5)
theorem ki5:cfn Tryz.prog gl Tryz.f5=some k5:=jbd (by kernel_rfl)
noncomputable def k9:CFn:=gk (cfn Tryz.prog gl Tryz.f9)
theorem ki4:cfn Tryz.prog gl Tryz.f9=some k9:=jbd (by kernel_rfl)
noncomputable def k10:CFn:=gk (cfn Tryz.prog gl Tryz.f10)
theorem kg2:cfn Tryz.prog gl Tryz.f10=some k10:=jbd (by kernel_rfl)
noncomputable def k12:CFn:=gk (cfn Tryz.prog gl Tryz.f12)
theorem kg1:cfn Tryz.prog gl Tryz.f12=some k12:=jbd (by kernel_rfl)
noncomputable def k13:CFn:=gk (cfn Tryz.prog gl Tryz.f13)
theorem kgz:cfn Tryz.prog gl Tryz.f13=some k13:=jbd (by kernel_rfl)
noncomputable def k14:CFn:=gk (cfn Tryz.prog gl Tryz.f14)
theorem kgy:cfn Tryz.prog gl Tryz.f14=some k14:=jbd (by kernel_rfl)
noncomputable def k16:CFn:=gk (cfn Tryz.prog gl Tryz.f16)
theorem kgx:cfn Tryz.prog gl Tryz.f16=some k16:=jbd (by kernel_rfl)
noncomputable def k21:CFn:=gk (cfn Tryz.prog gl Tryz.f21)
theorem kgw:cfn Tryz.prog gl Tryz.f21=some k21:=jbd (by kernel_rfl)
noncomputable def k22:CFn:=gk (cfn Tryz.prog gl Tryz.f22)
theorem kgv:cfn Tryz.prog gl Tryz.f22=some k22:=jbd (by kernel_rfl)
noncomputable def k23:CFn:=gk (cfn Tryz.prog gl Tryz.f23)
theorem kgu:cfn Tryz.prog gl Tryz.f23=some k23:=jbd (by kernel_rfl)
noncomputable def k24:CFn:=gk (cfn Tryz.prog gl Tryz.f24)
theorem kgt:cfn Tryz.prog gl Tryz.f24=some k24:=jbd (by kernel_rfl)
noncomputable def k25:CFn:=gk (cfn Tryz.prog gl Tryz.f25)
theorem kgs:cfn Tryz.prog gl Tryz.f25=some k25:=jbd (by kernel_rfl)
noncomputable def k26:CFn:=gk (cfn Tryz.prog gl Tryz.f26)
theorem kgr:cfn Tryz.prog gl Tryz.f26=some k26:=jbd (by kernel_rfl)
noncomputable def k28:CFn:=gk (cfn Tryz.prog gl Tryz.f28)
theorem kgq:cfn Tryz.prog gl Tryz.f28=some k28:=jbd (by kernel_rfl)
noncomputable def k29:CFn:=gk (cfn Tryz.prog gl Tryz.f29)
theorem kgp:cfn Tryz.prog gl Tryz.f29=some k29:=jbd (by kernel_rfl)
noncomputable def k31:CFn:=gk (cfn Tryz.prog gl Tryz.f31)
theorem kgo:cfn Tryz.prog gl Tryz.f31=some k31:=jbd (by kernel_rfl)
noncomputable def k34:CFn:=gk (cfn Tryz.prog gl Tryz.f34)
theorem kgn:cfn Tryz.prog gl Tryz.f34=some k34:=jbd (by kernel_rfl)
noncomputable def k35:CFn:=gk (cfn Tryz.prog gl Tryz.f35)
theorem kgm:cfn Tryz.prog gl Tryz.f35=some k35:=jbd (by kernel_rfl)
noncomputable def k40:CFn:=gk (cfn Tryz.prog gl Tryz.f40)
theorem kgl:cfn Tryz.prog gl Tryz.f40=some k40:=jbd (by kernel_rfl)
noncomputable def k42:CFn:=gk (cfn Tryz.prog gl Tryz.f42)
theorem kgk:cfn Tryz.prog gl Tryz.f42=some k42:=jbd (by kernel_rfl)
noncomputable def k43:CFn:=gk (cfn Tryz.prog gl Tryz.f43)
theorem kgj:cfn Tryz.prog gl Tryz.f43=some k43:=jbd (by kernel_rfl)
noncomputable def k44:CFn:=gk (cfn Tryz.prog gl Tryz.f44)
theorem kgi:cfn Tryz.prog gl Tryz.f44=some k44:=jbd (by kernel_rfl)
noncomputable def k45:CFn:=gk (cfn Tryz.prog gl Tryz.f45)
theorem kgh:cfn Tryz.prog gl Tryz.f45=some k45:=jbd (by kernel_rfl)
noncomputable def k46:CFn:=gk (cfn Tryz.prog gl Tryz.f46)
theorem kgg:cfn Tryz.prog gl Tryz.f46=some k46:=jbd (by kernel_rfl)
noncomputable def k47:CFn:=gk (cfn Tryz.prog gl Tryz.f47)
theorem kgf:cfn Tryz.prog gl Tryz.f47=some k47:=jbd (by kernel_rfl)
noncomputable def k48:CFn:=gk (cfn Tryz.prog gl Tryz.f48)
theorem kge:cfn Tryz.prog gl Tryz.f48=some k48:=jbd (by kernel_rfl)
noncomputable def k49:CFn:=gk (cfn Tryz.prog gl Tryz.f49)
theorem kgd:cfn Tryz.prog gl Tryz.f49=some k49:=jbd (by kernel_rfl)
noncomputable def k51:CFn:=gk (cfn Tryz.prog gl Tryz.f51)
theorem kgc:cfn Tryz.prog gl Tryz.f51=some k51:=jbd (by kernel_rfl)
noncomputable def k53:CFn:=gk (cfn Tryz.prog gl Tryz.f53)
theorem kgb:cfn Tryz.prog gl Tryz.f53=some k53:=jbd (by kernel_rfl)
noncomputable def k56:CFn:=gk (cfn Tryz.prog gl Tryz.f56)
theorem kga:cfn Tryz.prog gl Tryz.f56=some k56:=jbd (by kernel_rfl)
noncomputable def k58:CFn:=gk (cfn Tryz.prog gl Tryz.f58)
theorem kf9:cfn Tryz.prog gl Tryz.f58=some k58:=jbd (by kernel_rfl)
noncomputable def k59:CFn:=gk (cfn Tryz.prog gl Tryz.f59)
theorem kf8:cfn Tryz.prog gl Tryz.f59=some k59:=jbd (by kernel_rfl)
noncomputable def k60:CFn:=gk (cfn Tryz.prog gl Tryz.f60)
theorem kf7:cfn Tryz.prog gl Tryz.f60=some k60:=jbd (by kernel_rfl)
noncomputable def k61:CFn:=gk (cfn Tryz.prog gl Tryz.f61)
theorem kf6:cfn Tryz.prog gl Tryz.f61=some k61:=jbd (by kernel_rfl)
noncomputable def k65:CFn:=gk (cfn Tryz.prog gl Tryz.f65)
theorem kf5:cfn Tryz.prog gl Tryz.f65=some k65:=jbd (by kernel_rfl)
noncomputable def k66:CFn:=gk (cfn Tryz.prog gl Tryz.f66)
theorem kf4:cfn Tryz.prog gl Tryz.f66=some k66:=jbd (by kernel_rfl)
noncomputable def k67:CFn:=gk (cfn Tryz.prog gl Tryz.f67)
theorem kf3:cfn Tryz.prog gl Tryz.f67=some k67:=jbd (by kernel_rfl)
noncomputable def k68:CFn:=gk (cfn Tryz.prog gl Tryz.f68)
theorem kf2:cfn Tryz.prog gl Tryz.f68=some k68:=jbd (by kernel_rfl)
noncomputable def k69:CFn:=gk (cfn Tryz.prog gl Tryz.f69)
theorem kf1:cfn Tryz.prog gl Tryz.f69=some k69:=jbd (by kernel_rfl)
noncomputable def k70:CFn:=gk (cfn Tryz.prog gl Tryz.f70)
theorem kf0:cfn Tryz.prog gl Tryz.f70=some k70:=jbd (by kernel_rfl)
noncomputable def k71:CFn:=gk (cfn Tryz.prog gl Tryz.f71)
theorem kfz:cfn Tryz.prog gl Tryz.f71=some k71:=jbd (by kernel_rfl)
noncomputable def k74:CFn:=gk (cfn Tryz.prog gl Tryz.f74)
theorem kfy:cfn Tryz.prog gl Tryz.f74=some k74:=jbd (by kernel_rfl)
noncomputable def k77:CFn:=gk (cfn Tryz.prog gl Tryz.f77)
theorem kfx:cfn Tryz.prog gl Tryz.f77=some k77:=jbd (by kernel_rfl)
noncomputable def k78:CFn:=gk (cfn Tryz.prog gl Tryz.f78)
theorem kfw:cfn Tryz.prog gl Tryz.f78=some k78:=jbd (by kernel_rfl)
noncomputable def k80:CFn:=gk (cfn Tryz.prog gl Tryz.f80)
theorem kfv:cfn Tryz.prog gl Tryz.f80=some k80:=jbd (by kernel_rfl)
noncomputable def k85:CFn:=gk (cfn Tryz.prog gl Tryz.f85)
theorem kfu:cfn Tryz.prog gl Tryz.f85=some k85:=jbd (by kernel_rfl)
noncomputable def k86:CFn:=gk (cfn Tryz.prog gl Tryz.f86)
theorem kft:cfn Tryz.prog gl Tryz.f86=some k86:=jbd (by kernel_rfl)
noncomputable def k87:CFn:=gk (cfn Tryz.prog gl Tryz.f87)
theorem kfs:cfn Tryz.prog gl Tryz.f87=some k87:=jbd (by kernel_rfl)
noncomputable def k88:CFn:=gk (cfn Tryz.prog gl Tryz.f88)
theorem kfr:cfn Tryz.prog gl Tryz.f88=some k88:=jbd (by kernel_rfl)
noncomputable def k89:CFn:=gk (cfn Tryz.prog gl Tryz.f89)
theorem kfq:cfn Tryz.prog gl Tryz.f89=some k89:=jbd (by kernel_rfl)
noncomputable def k90:CFn:=gk (cfn Tryz.prog gl Tryz.f90)
theorem kfp:cfn Tryz.prog gl Tryz.f90=some k90:=jbd (by kernel_rfl)
noncomputable def k91:CFn:=gk (cfn Tryz.prog gl Tryz.f91)
theorem kfo:cfn Tryz.prog gl Tryz.f91=some k91:=jbd (by kernel_rfl)
noncomputable def k92:CFn:=gk (cfn Tryz.prog gl Tryz.f92)
theorem kfn:cfn Tryz.prog gl Tryz.f92=some k92:=jbd (by kernel_rfl)
noncomputable def k93:CFn:=gk (cfn Tryz.prog gl Tryz.f93)
theorem kfm:cfn Tryz.prog gl Tryz.f93=some k93:=jbd (by kernel_rfl)
noncomputable def k97:CFn:=gk (cfn Tryz.prog gl Tryz.f97)
theorem kfl:cfn Tryz.prog gl Tryz.f97=some k97:=jbd (by kernel_rfl)
noncomputable def kg6:CFn:=gk (cfn Tryz.prog gl Tryz.f100)
theorem kcs:cfn Tryz.prog gl Tryz.f100=some kg6:=jbd (by kernel_rfl)
noncomputable def kg5:CFn:=gk (cfn Tryz.prog gl Tryz.f101)
theorem kcr:cfn Tryz.prog gl Tryz.f101=some kg5:=jbd (by kernel_rfl)
noncomputable def kg4:CFn:=gk (cfn Tryz.prog gl Tryz.f102)
theorem kcq:cfn Tryz.prog gl Tryz.f102=some kg4:=jbd (by kernel_rfl)
noncomputable def kid:CFn:=gk (cfn Tryz.prog gl Tryz.f103)
theorem kcp:cfn Tryz.prog gl Tryz.f103=some kid:=jbd (by kernel_rfl)
noncomputable def kg3:CFn:=gk (cfn Tryz.prog gl Tryz.f107)
theorem kco:cfn Tryz.prog gl Tryz.f107=some kg3:=jbd (by kernel_rfl)
noncomputable def kg0:CFn:=gk (cfn Tryz.prog gl Tryz.f134)
theorem kcn:cfn Tryz.prog gl Tryz.f134=some kg0:=jbd (by kernel_rfl)
noncomputable def kic:CFn:=gk (cfn Tryz.prog gl Tryz.f135)
theorem kcm:cfn Tryz.prog gl Tryz.f135=some kic:=jbd (by kernel_rfl)
noncomputable def kib:CFn:=gk (cfn Tryz.prog gl Tryz.f136)
theorem kcl:cfn Tryz.prog gl Tryz.f136=some kib:=jbd (by kernel_rfl)
noncomputable def kia:CFn:=gk (cfn Tryz.prog gl Tryz.f152)
theorem kck:cfn Tryz.prog gl Tryz.f152=some kia:=jbd (by kernel_rfl)
noncomputable def kh9:CFn:=gk (cfn Tryz.prog gl Tryz.f153)
theorem kcj:cfn Tryz.prog gl Tryz.f153=some kh9:=jbd (by kernel_rfl)
end
end Vm
end Go.Proofs.YtahplmacekfjgaaGreatDoor
namespace Go.Proofs.YtahplmacekfjgaaGreatDoor
namespace Vm
open Go Go.Vm Go.Vm.W
noncomputable section
set_option maxRecDepth 100000
attribute [local irreducible] k5 k9 k10 k12 k13 k14 k16 k21 k22 k23 k24 k25 k26 k28 k29 k31 k34 k35 k40 k42 k43 k44 k45 k46 k47 k48 k49 k51 k53 k56 k58 k59 k60 k61 k65 k66 k67 k68 k69 k70 k71 k74 k77 k78 k80 k85 k86 k87 k88 k89 k90 k91 k92 k93 k97 kg6 kg5 kg4 kid kg3 kg0 kic kib kia kh9
def prog:Tr CFn:=(.n (.n (.n (.n (.n (.n .e (some k31) .e) none (.n .e (some k47) .e)) none (.n (.n (.n (.n .e (some kic) .e) (some k71) .e) none (.n .e (some kid) .e)) (some k23) (.n (.n .e (some k87) .e) none .e))) none (.n (.n (.n (.n .e (some k67) .e) (some k35) .e) none (.n .e (some k51) .e)) none (.n (.n .e (some k43) (.n .e (some kg3) .e)) none (.n (.n .e (some k91) .e) (some k59) .e)))) none (.n (.n (.n (.n (.n .e (some k65) .e) none (.n .e (some k97) .e)) none (.n .e (some k49) .e)) (some k9) (.n .e (some k25) (.n (.n (.n .e (some kh9) .e) (some k89) .e) none .e))) (some k5) (.n (.n (.n (.n .e (some k69) .e) none (.n .e (some kg5) .e)) (some k21) (.n (.n .e (some k85) .e) (some k53) .e)) (some k13) (.n (.n (.n .e (some k77) .e) (some k45) .e) (some k29) (.n (.n .e (some k93) .e) (some k61) .e))))) none (.n (.n (.n (.n .e (some k16) (.n (.n .e (some k80) .e) (some k48) .e)) none (.n (.n (.n (.n .e (some kib) .e) none .e) (some k40) .e) (some k24) (.n (.n (.n .e (some kia) .e) (some k88) .e) (some k56) .e))) none (.n (.n (.n (.n .e (some k68) .e) none (.n .e (some kg6) .e)) none .e) (some k12) (.n (.n .e (some k44) .e) (some k28) (.n (.n .e (some k92) .e) (some k60) .e)))) none (.n (.n (.n (.n (.n .e (some k66) .e) (some k34) .e) none .e) (some k10) (.n (.n (.n .e (some k74) .e) (some k42) .e) (some k26) (.n (.n .e (some k90) .e) (some k58) .e))) none (.n (.n (.n (.n (.n .e (some kg0) .e) (some k70) .e) none (.n .e (some kg4) .e)) (some k22) (.n (.n .e (some k86) .e) none .e)) (some k14) (.n (.n (.n .e (some k78) .e) (some k46) .e) none .e)))))
def kl:List (Nat×CFn):=[(5,k5),(9,k9),(10,k10),(12,k12),(13,k13),(14,k14),(16,k16),(21,k21),(22,k22),(23,k23),(24,k24),(25,k25),(26,k26),(28,k28),(29,k29),(31,k31),(34,k34),(35,k35),(40,k40),(42,k42),(43,k43),(44,k44),(45,k45),(46,k46),(47,k47),(48,k48),(49,k49),(51,k51),(53,k53),(56,k56),(58,k58),(59,k59),(60,k60),(61,k61),(65,k65),(66,k66),(67,k67),(68,k68),(69,k69),(70,k70),(71,k71),(74,k74),(77,k77),(78,k78),(80,k80),(85,k85),(86,k86),(87,k87),(88,k88),(89,k89),(90,k90),(91,k91),(92,k92),(93,k93),(97,k97),(100,kg6),(101,kg5),(102,kg4),(103,kid),(107,kg3),(134,kg0),(135,kic),(136,kib),(152,kia),(153,kh9)]
theorem ki3:kjn Tryz.prog gl its kl:=⟨⟨Tryz.f5,Tryz.func5,.inl ki5⟩,⟨Tryz.f9,Tryz.func9,.inl ki4⟩,⟨Tryz.f10,Tryz.func10,.inl kg2⟩,⟨Tryz.f12,Tryz.func12,.inl kg1⟩,⟨Tryz.f13,Tryz.func13,.inl kgz⟩,⟨Tryz.f14,Tryz.func14,.inl kgy⟩,⟨Tryz.f16,Tryz.func16,.inl kgx⟩,⟨Tryz.f21,Tryz.func21,.inl kgw⟩,⟨Tryz.f22,Tryz.func22,.inl kgv⟩,⟨Tryz.f23,Tryz.func23,.inl kgu⟩,⟨Tryz.f24,Tryz.func24,.inl kgt⟩,⟨Tryz.f25,Tryz.func25,.inl kgs⟩,⟨Tryz.f26,Tryz.func26,.inl kgr⟩,⟨Tryz.f28,Tryz.func28,.inl kgq⟩,⟨Tryz.f29,Tryz.func29,.inl kgp⟩,⟨Tryz.f31,Tryz.func31,.inl kgo⟩,⟨Tryz.f34,Tryz.func34,.inl kgn⟩,⟨Tryz.f35,Tryz.func35,.inl kgm⟩,⟨Tryz.f40,Tryz.func40,.inl kgl⟩,⟨Tryz.f42,Tryz.func42,.inl kgk⟩,⟨Tryz.f43,Tryz.func43,.inl kgj⟩,⟨Tryz.f44,Tryz.func44,.inl kgi⟩,⟨Tryz.f45,Tryz.func45,.inl kgh⟩,⟨Tryz.f46,Tryz.func46,.inl kgg⟩,⟨Tryz.f47,Tryz.func47,.inl kgf⟩,⟨Tryz.f48,Tryz.func48,.inl kge⟩,⟨Tryz.f49,Tryz.func49,.inl kgd⟩,⟨Tryz.f51,Tryz.func51,.inl kgc⟩,⟨Tryz.f53,Tryz.func53,.inl kgb⟩,⟨Tryz.f56,Tryz.func56,.inl kga⟩,⟨Tryz.f58,Tryz.func58,.inl kf9⟩,⟨Tryz.f59,Tryz.func59,.inl kf8⟩,⟨Tryz.f60,Tryz.func60,.inl kf7⟩,⟨Tryz.f61,Tryz.func61,.inl kf6⟩,⟨Tryz.f65,Tryz.func65,.inl kf5⟩,⟨Tryz.f66,Tryz.func66,.inl kf4⟩,⟨Tryz.f67,Tryz.func67,.inl kf3⟩,⟨Tryz.f68,Tryz.func68,.inl kf2⟩,⟨Tryz.f69,Tryz.func69,.inl kf1⟩,⟨Tryz.f70,Tryz.func70,.inl kf0⟩,⟨Tryz.f71,Tryz.func71,.inl kfz⟩,⟨Tryz.f74,Tryz.func74,.inl kfy⟩,⟨Tryz.f77,Tryz.func77,.inl kfx⟩,⟨Tryz.f78,Tryz.func78,.inl kfw⟩,⟨Tryz.f80,Tryz.func80,.inl kfv⟩,⟨Tryz.f85,Tryz.func85,.inl kfu⟩,⟨Tryz.f86,Tryz.func86,.inl kft⟩,⟨Tryz.f87,Tryz.func87,.inl kfs⟩,⟨Tryz.f88,Tryz.func88,.inl kfr⟩,⟨Tryz.f89,Tryz.func89,.inl kfq⟩,⟨Tryz.f90,Tryz.func90,.inl kfp⟩,⟨Tryz.f91,Tryz.func91,.inl kfo⟩,⟨Tryz.f92,Tryz.func92,.inl kfn⟩,⟨Tryz.f93,Tryz.func93,.inl kfm⟩,⟨Tryz.f97,Tryz.func97,.inl kfl⟩,⟨Tryz.f100,Tryz.func100,.inl kcs⟩,⟨Tryz.f101,Tryz.func101,.inl kcr⟩,⟨Tryz.f102,Tryz.func102,.inl kcq⟩,⟨Tryz.f103,Tryz.func103,.inl kcp⟩,⟨Tryz.f107,Tryz.func107,.inl kco⟩,⟨Tryz.f134,Tryz.func134,.inl kcn⟩,⟨Tryz.f135,Tryz.func135,.inl kcm⟩,⟨Tryz.f136,Tryz.func136,.inl kcl⟩,⟨Tryz.f152,Tryz.func152,.inl kck⟩,⟨Tryz.f153,Tryz.func153,.inl kcj⟩,trivial⟩
theorem kb4:prog=ofK kl:=by kernel_rfl
theorem jvg:j25 Tryz.prog gl prog:=kb4▸jxi kg7 ki3
end
end Vm
end Go.Proofs.YtahplmacekfjgaaGreatDoor
