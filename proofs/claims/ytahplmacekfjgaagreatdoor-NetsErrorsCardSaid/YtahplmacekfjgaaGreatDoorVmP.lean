/-
  The program's text for the machine. (Printed by a program.)
  The program's text for the machine. (Printed by a program.)
  The program's text for the machine. (Printed by a program.)
-/
import Derived.Test.YtahplmacekfjgaaGreatDoorRows
import Derived.Test.YtahplmacekfjgaaGreatDoorVmWG
set_option linter.unusedSimpArgs false
set_option linter.unusedVariables false
set_option linter.unusedSectionVars false
set_option linter.unnecessarySimpa false
namespace Go.Proofs.YtahplmacekfjgaaGreatDoor
namespace Vm
open Go Go.Vm Go.Vm.W
noncomputable section
set_option maxRecDepth 100000
def gl:List Nat:=[0,1,2,3,4,5,6,7]
def nx0:Nat:=8
def ex:List (Nat×List AV):=[]
def es:List (Nat×List AV):=[(4,[(.int .u8 0),(.int .u8 1),(.int .u8 28),(.int .u8 2),(.int .u8 29),(.int .u8 14),(.int .u8 24),(.int .u8 3),(.int .u8 30),(.int .u8 22),(.int .u8 20),(.int .u8 15),(.int .u8 25),(.int .u8 17),(.int .u8 4),(.int .u8 8),(.int .u8 31),(.int .u8 27),(.int .u8 13),(.int .u8 23),(.int .u8 21),(.int .u8 19),(.int .u8 16),(.int .u8 7),(.int .u8 26),(.int .u8 12),(.int .u8 18),(.int .u8 6),(.int .u8 11),(.int .u8 5),(.int .u8 10),(.int .u8 9)]),(5,[(.int .u8 0),(.int .u8 1),(.int .u8 56),(.int .u8 2),(.int .u8 57),(.int .u8 49),(.int .u8 28),(.int .u8 3),(.int .u8 61),(.int .u8 58),(.int .u8 42),(.int .u8 50),(.int .u8 38),(.int .u8 29),(.int .u8 17),(.int .u8 4),(.int .u8 62),(.int .u8 47),(.int .u8 59),(.int .u8 36),(.int .u8 45),(.int .u8 43),(.int .u8 51),(.int .u8 22),(.int .u8 53),(.int .u8 39),(.int .u8 33),(.int .u8 30),(.int .u8 24),(.int .u8 18),(.int .u8 12),(.int .u8 5),(.int .u8 63),(.int .u8 55),(.int .u8 48),(.int .u8 27),(.int .u8 60),(.int .u8 41),(.int .u8 37),(.int .u8 16),(.int .u8 46),(.int .u8 35),(.int .u8 44),(.int .u8 21),(.int .u8 52),(.int .u8 32),(.int .u8 23),(.int .u8 11),(.int .u8 54),(.int .u8 26),(.int .u8 40),(.int .u8 15),(.int .u8 34),(.int .u8 20),(.int .u8 31),(.int .u8 10),(.int .u8 25),(.int .u8 14),(.int .u8 19),(.int .u8 9),(.int .u8 13),(.int .u8 8),(.int .u8 7),(.int .u8 6)]),(0,[(.int .u64 1),(.int .u64 10),(.int .u64 100),(.int .u64 1000),(.int .u64 10000),(.int .u64 100000),(.int .u64 1000000),(.int .u64 10000000),(.int .u64 100000000),(.int .u64 1000000000),(.int .u64 10000000000),(.int .u64 100000000000),(.int .u64 1000000000000),(.int .u64 10000000000000),(.int .u64 100000000000000),(.int .u64 1000000000000000),(.int .u64 10000000000000000),(.int .u64 100000000000000000),(.int .u64 1000000000000000000),(.int .u64 10000000000000000000)])]
def H0:Tr Blk:=(.n (.n .e none (.n .e (some (.cells (.n (.n (.n (.n (.n (.n (.n .e (some (.int .u8 6)) .e) (some (.int .u8 5)) .e) (some (.int .u8 4)) (.n .e (some (.int .u8 11)) .e)) (some (.int .u8 3)) (.n (.n .e (some (.int .u8 16)) .e) (some (.int .u8 22)) (.n .e (some (.int .u8 10)) .e))) (some (.int .u8 2)) (.n (.n (.n .e (some (.int .u8 27)) .e) (some (.int .u8 36)) (.n .e (some (.int .u8 15)) .e)) (some (.int .u8 50)) (.n (.n .e (some (.int .u8 21)) .e) (some (.int .u8 30)) (.n .e (some (.int .u8 9)) .e)))) (some (.int .u8 1)) (.n (.n (.n (.n .e (some (.int .u8 55)) .e) (some (.int .u8 47)) (.n .e (some (.int .u8 26)) .e)) (some (.int .u8 58)) (.n (.n .e (some (.int .u8 35)) .e) (some (.int .u8 39)) (.n .e (some (.int .u8 14)) .e))) (some (.int .u8 49)) (.n (.n (.n .e (some (.int .u8 41)) .e) (some (.int .u8 43)) (.n .e (some (.int .u8 20)) .e)) (some (.int .u8 29)) (.n (.n .e (some (.int .u8 32)) .e) (some (.int .u8 18)) (.n .e (some (.int .u8 8)) .e))))) (some (.int .u8 0)) (.n (.n (.n (.n (.n .e (some (.int .u8 63)) .e) (some (.int .u8 62)) (.n .e (some (.int .u8 54)) .e)) (some (.int .u8 61)) (.n (.n .e (some (.int .u8 46)) .e) (some (.int .u8 53)) (.n .e (some (.int .u8 25)) .e))) (some (.int .u8 57)) (.n (.n (.n .e (some (.int .u8 60)) .e) (some (.int .u8 45)) (.n .e (some (.int .u8 34)) .e)) (some (.int .u8 38)) (.n (.n .e (some (.int .u8 52)) .e) (some (.int .u8 24)) (.n .e (some (.int .u8 13)) .e)))) (some (.int .u8 56)) (.n (.n (.n (.n .e (some (.int .u8 48)) .e) (some (.int .u8 59)) (.n .e (some (.int .u8 40)) .e)) (some (.int .u8 42)) (.n (.n .e (some (.int .u8 44)) .e) (some (.int .u8 33)) (.n .e (some (.int .u8 19)) .e))) (some (.int .u8 28)) (.n (.n (.n .e (some (.int .u8 37)) .e) (some (.int .u8 51)) (.n .e (some (.int .u8 31)) .e)) (some (.int .u8 17)) (.n (.n .e (some (.int .u8 23)) .e) (some (.int .u8 12)) (.n .e (some (.int .u8 7)) .e)))))) 64)) .e)) (some (.cells (.n (.n (.n (.n (.n .e (some (.int .u64 1000000000000000)) .e) (some (.int .u64 10000000)) .e) (some (.int .u64 1000)) (.n (.n .e (some (.int .u64 10000000000000000000)) .e) (some (.int .u64 100000000000)) .e)) (some (.int .u64 10)) (.n (.n (.n .e (some (.int .u64 100000000000000000)) .e) (some (.int .u64 1000000000)) .e) (some (.int .u64 100000)) (.n .e (some (.int .u64 10000000000000)) .e))) (some (.int .u64 1)) (.n (.n (.n (.n .e (some (.int .u64 10000000000000000)) .e) (some (.int .u64 100000000)) .e) (some (.int .u64 10000)) (.n .e (some (.int .u64 1000000000000)) .e)) (some (.int .u64 100)) (.n (.n (.n .e (some (.int .u64 1000000000000000000)) .e) (some (.int .u64 10000000000)) .e) (some (.int .u64 1000000)) (.n .e (some (.int .u64 100000000000000)) .e)))) 20)) (.n (.n .e (some (.cells (.n (.n (.n (.n (.n (.n .e (some (.int .u8 9)) .e) (some (.int .u8 8)) .e) (some (.int .u8 3)) (.n .e (some (.int .u8 7)) .e)) (some (.int .u8 2)) (.n (.n .e (some (.int .u8 23)) .e) (some (.int .u8 15)) (.n .e (some (.int .u8 6)) .e))) (some (.int .u8 1)) (.n (.n (.n .e (some (.int .u8 27)) .e) (some (.int .u8 22)) (.n .e (some (.int .u8 12)) .e)) (some (.int .u8 14)) (.n (.n .e (some (.int .u8 19)) .e) (some (.int .u8 17)) (.n .e (some (.int .u8 5)) .e)))) (some (.int .u8 0)) (.n (.n (.n (.n .e (some (.int .u8 31)) .e) (some (.int .u8 30)) (.n .e (some (.int .u8 26)) .e)) (some (.int .u8 29)) (.n (.n .e (some (.int .u8 21)) .e) (some (.int .u8 25)) (.n .e (some (.int .u8 11)) .e))) (some (.int .u8 28)) (.n (.n (.n .e (some (.int .u8 13)) .e) (some (.int .u8 20)) (.n .e (some (.int .u8 18)) .e)) (some (.int .u8 24)) (.n (.n .e (some (.int .u8 16)) .e) (some (.int .u8 4)) (.n .e (some (.int .u8 10)) .e))))) 32)) .e) none .e))
abbrev its:Its:=[]
theorem kg2:j08 Tryz.prog gl its:=j1u
def kca:List (String×DataW Unit):=(Rows.netsErrorsRow.laid.zipIdx.filter fun x=>[0,1,2].contains x.2).map (·.1)
theorem kjb:ju5 Tryz.prog kca=some es:=by kernel_rfl
theorem kdo (_:Int):jkm (ex++es)=H0:=by kernel_rfl
def BB (_:Int):Base:=⟨H0,nx0⟩
theorem kjx (mx:Int):WF (BB mx).H0 (BB mx).nx0:=by
 show WF H0 nx0
 rw[←kdo mx]
 exact kdc (by kernel_rfl)
theorem mixed:Tryz.prog.follows .mixedOrders=true:=by kernel_rfl
end
end Vm
end Go.Proofs.YtahplmacekfjgaaGreatDoor
namespace Go.Proofs.YtahplmacekfjgaaGreatDoor
namespace Vm
open Go Go.Vm Go.Vm.W
noncomputable section
set_option maxRecDepth 100000
noncomputable def k4:CFn:=gk (cfn Tryz.prog gl Tryz.f4)
theorem ki7:cfn Tryz.prog gl Tryz.f4=some k4:=jbc (by kernel_rfl)
noncomputable def k9:CFn:=gk (cfn Tryz.prog gl Tryz.f9)
theorem ki6:cfn Tryz.prog gl Tryz.f9=some k9:=jbc (by kernel_rfl)
noncomputable def k10:CFn:=gk (cfn Tryz.prog gl Tryz.f10)
theorem kgy:cfn Tryz.prog gl Tryz.f10=some k10:=jbc (by kernel_rfl)
noncomputable def k11:CFn:=gk (cfn Tryz.prog gl Tryz.f11)
theorem kgx:cfn Tryz.prog gl Tryz.f11=some k11:=jbc (by kernel_rfl)
noncomputable def k12:CFn:=gk (cfn Tryz.prog gl Tryz.f12)
theorem kgw:cfn Tryz.prog gl Tryz.f12=some k12:=jbc (by kernel_rfl)
noncomputable def k13:CFn:=gk (cfn Tryz.prog gl Tryz.f13)
theorem kgt:cfn Tryz.prog gl Tryz.f13=some k13:=jbc (by kernel_rfl)
noncomputable def k14:CFn:=gk (cfn Tryz.prog gl Tryz.f14)
theorem kgs:cfn Tryz.prog gl Tryz.f14=some k14:=jbc (by kernel_rfl)
noncomputable def k15:CFn:=gk (cfn Tryz.prog gl Tryz.f15)
theorem kgr:cfn Tryz.prog gl Tryz.f15=some k15:=jbc (by kernel_rfl)
noncomputable def k16:CFn:=gk (cfn Tryz.prog gl Tryz.f16)
theorem kgq:cfn Tryz.prog gl Tryz.f16=some k16:=jbc (by kernel_rfl)
noncomputable def k17:CFn:=gk (cfn Tryz.prog gl Tryz.f17)
theorem kgp:cfn Tryz.prog gl Tryz.f17=some k17:=jbc (by kernel_rfl)
noncomputable def k18:CFn:=gk (cfn Tryz.prog gl Tryz.f18)
theorem kgo:cfn Tryz.prog gl Tryz.f18=some k18:=jbc (by kernel_rfl)
noncomputable def k19:CFn:=gk (cfn Tryz.prog gl Tryz.f19)
theorem kgn:cfn Tryz.prog gl Tryz.f19=some k19:=jbc (by kernel_rfl)
noncomputable def k20:CFn:=gk (cfn Tryz.prog gl Tryz.f20)
theorem kgm:cfn Tryz.prog gl Tryz.f20=some k20:=jbc (by kernel_rfl)
noncomputable def k21:CFn:=gk (cfn Tryz.prog gl Tryz.f21)
theorem kgl:cfn Tryz.prog gl Tryz.f21=some k21:=jbc (by kernel_rfl)
noncomputable def k24:CFn:=gk (cfn Tryz.prog gl Tryz.f24)
theorem kgk:cfn Tryz.prog gl Tryz.f24=some k24:=jbc (by kernel_rfl)
noncomputable def k25:CFn:=gk (cfn Tryz.prog gl Tryz.f25)
theorem kgj:cfn Tryz.prog gl Tryz.f25=some k25:=jbc (by kernel_rfl)
noncomputable def k26:CFn:=gk (cfn Tryz.prog gl Tryz.f26)
theorem kgi:cfn Tryz.prog gl Tryz.f26=some k26:=jbc (by kernel_rfl)
noncomputable def k28:CFn:=gk (cfn Tryz.prog gl Tryz.f28)
theorem kgh:cfn Tryz.prog gl Tryz.f28=some k28:=jbc (by kernel_rfl)
noncomputable def k29:CFn:=gk (cfn Tryz.prog gl Tryz.f29)
theorem kgg:cfn Tryz.prog gl Tryz.f29=some k29:=jbc (by kernel_rfl)
noncomputable def k31:CFn:=gk (cfn Tryz.prog gl Tryz.f31)
theorem kgf:cfn Tryz.prog gl Tryz.f31=some k31:=jbc (by kernel_rfl)
noncomputable def k34:CFn:=gk (cfn Tryz.prog gl Tryz.f34)
theorem kge:cfn Tryz.prog gl Tryz.f34=some k34:=jbc (by kernel_rfl)
noncomputable def k35:CFn:=gk (cfn Tryz.prog gl Tryz.f35)
theorem kgd:cfn Tryz.prog gl Tryz.f35=some k35:=jbc (by kernel_rfl)
noncomputable def k40:CFn:=gk (cfn Tryz.prog gl Tryz.f40)
theorem kgc:cfn Tryz.prog gl Tryz.f40=some k40:=jbc (by kernel_rfl)
noncomputable def k42:CFn:=gk (cfn Tryz.prog gl Tryz.f42)
theorem kgb:cfn Tryz.prog gl Tryz.f42=some k42:=jbc (by kernel_rfl)
noncomputable def k43:CFn:=gk (cfn Tryz.prog gl Tryz.f43)
theorem kga:cfn Tryz.prog gl Tryz.f43=some k43:=jbc (by kernel_rfl)
noncomputable def k44:CFn:=gk (cfn Tryz.prog gl Tryz.f44)
theorem kf9:cfn Tryz.prog gl Tryz.f44=some k44:=jbc (by kernel_rfl)
noncomputable def k45:CFn:=gk (cfn Tryz.prog gl Tryz.f45)
theorem kf8:cfn Tryz.prog gl Tryz.f45=some k45:=jbc (by kernel_rfl)
noncomputable def k46:CFn:=gk (cfn Tryz.prog gl Tryz.f46)
theorem kf7:cfn Tryz.prog gl Tryz.f46=some k46:=jbc (by kernel_rfl)
noncomputable def k47:CFn:=gk (cfn Tryz.prog gl Tryz.f47)
theorem kf6:cfn Tryz.prog gl Tryz.f47=some k47:=jbc (by kernel_rfl)
noncomputable def k48:CFn:=gk (cfn Tryz.prog gl Tryz.f48)
theorem kf5:cfn Tryz.prog gl Tryz.f48=some k48:=jbc (by kernel_rfl)
noncomputable def k49:CFn:=gk (cfn Tryz.prog gl Tryz.f49)
theorem kf4:cfn Tryz.prog gl Tryz.f49=some k49:=jbc (by kernel_rfl)
noncomputable def k50:CFn:=gk (cfn Tryz.prog gl Tryz.f50)
theorem kf3:cfn Tryz.prog gl Tryz.f50=some k50:=jbc (by kernel_rfl)
noncomputable def k51:CFn:=gk (cfn Tryz.prog gl Tryz.f51)
theorem kf2:cfn Tryz.prog gl Tryz.f51=some k51:=jbc (by kernel_rfl)
noncomputable def k52:CFn:=gk (cfn Tryz.prog gl Tryz.f52)
theorem kf1:cfn Tryz.prog gl Tryz.f52=some k52:=jbc (by kernel_rfl)
noncomputable def k53:CFn:=gk (cfn Tryz.prog gl Tryz.f53)
theorem kf0:cfn Tryz.prog gl Tryz.f53=some k53:=jbc (by kernel_rfl)
noncomputable def k60:CFn:=gk (cfn Tryz.prog gl Tryz.f60)
theorem kfz:cfn Tryz.prog gl Tryz.f60=some k60:=jbc (by kernel_rfl)
noncomputable def k61:CFn:=gk (cfn Tryz.prog gl Tryz.f61)
theorem kfy:cfn Tryz.prog gl Tryz.f61=some k61:=jbc (by kernel_rfl)
noncomputable def k65:CFn:=gk (cfn Tryz.prog gl Tryz.f65)
theorem kfx:cfn Tryz.prog gl Tryz.f65=some k65:=jbc (by kernel_rfl)
noncomputable def k66:CFn:=gk (cfn Tryz.prog gl Tryz.f66)
theorem kfw:cfn Tryz.prog gl Tryz.f66=some k66:=jbc (by kernel_rfl)
noncomputable def k67:CFn:=gk (cfn Tryz.prog gl Tryz.f67)
theorem kfv:cfn Tryz.prog gl Tryz.f67=some k67:=jbc (by kernel_rfl)
noncomputable def k68:CFn:=gk (cfn Tryz.prog gl Tryz.f68)
theorem kfu:cfn Tryz.prog gl Tryz.f68=some k68:=jbc (by kernel_rfl)
noncomputable def k69:CFn:=gk (cfn Tryz.prog gl Tryz.f69)
theorem kft:cfn Tryz.prog gl Tryz.f69=some k69:=jbc (by kernel_rfl)
noncomputable def k70:CFn:=gk (cfn Tryz.prog gl Tryz.f70)
theorem kfs:cfn Tryz.prog gl Tryz.f70=some k70:=jbc (by kernel_rfl)
noncomputable def k71:CFn:=gk (cfn Tryz.prog gl Tryz.f71)
theorem kfr:cfn Tryz.prog gl Tryz.f71=some k71:=jbc (by kernel_rfl)
noncomputable def k74:CFn:=gk (cfn Tryz.prog gl Tryz.f74)
theorem kfq:cfn Tryz.prog gl Tryz.f74=some k74:=jbc (by kernel_rfl)
noncomputable def k75:CFn:=gk (cfn Tryz.prog gl Tryz.f75)
theorem kfp:cfn Tryz.prog gl Tryz.f75=some k75:=jbc (by kernel_rfl)
noncomputable def k76:CFn:=gk (cfn Tryz.prog gl Tryz.f76)
theorem kfo:cfn Tryz.prog gl Tryz.f76=some k76:=jbc (by kernel_rfl)
noncomputable def k77:CFn:=gk (cfn Tryz.prog gl Tryz.f77)
theorem kfn:cfn Tryz.prog gl Tryz.f77=some k77:=jbc (by kernel_rfl)
noncomputable def k78:CFn:=gk (cfn Tryz.prog gl Tryz.f78)
theorem kfm:cfn Tryz.prog gl Tryz.f78=some k78:=jbc (by kernel_rfl)
noncomputable def k85:CFn:=gk (cfn Tryz.prog gl Tryz.f85)
theorem kfl:cfn Tryz.prog gl Tryz.f85=some k85:=jbc (by kernel_rfl)
noncomputable def k86:CFn:=gk (cfn Tryz.prog gl Tryz.f86)
theorem kfk:cfn Tryz.prog gl Tryz.f86=some k86:=jbc (by kernel_rfl)
noncomputable def k87:CFn:=gk (cfn Tryz.prog gl Tryz.f87)
theorem kfj:cfn Tryz.prog gl Tryz.f87=some k87:=jbc (by kernel_rfl)
noncomputable def k88:CFn:=gk (cfn Tryz.prog gl Tryz.f88)
theorem kfi:cfn Tryz.prog gl Tryz.f88=some k88:=jbc (by kernel_rfl)
noncomputable def k89:CFn:=gk (cfn Tryz.prog gl Tryz.f89)
theorem kfh:cfn Tryz.prog gl Tryz.f89=some k89:=jbc (by kernel_rfl)
noncomputable def k90:CFn:=gk (cfn Tryz.prog gl Tryz.f90)
theorem kfg:cfn Tryz.prog gl Tryz.f90=some k90:=jbc (by kernel_rfl)
noncomputable def k91:CFn:=gk (cfn Tryz.prog gl Tryz.f91)
theorem kff:cfn Tryz.prog gl Tryz.f91=some k91:=jbc (by kernel_rfl)
noncomputable def k92:CFn:=gk (cfn Tryz.prog gl Tryz.f92)
theorem kfe:cfn Tryz.prog gl Tryz.f92=some k92:=jbc (by kernel_rfl)
noncomputable def k93:CFn:=gk (cfn Tryz.prog gl Tryz.f93)
theorem kfd:cfn Tryz.prog gl Tryz.f93=some k93:=jbc (by kernel_rfl)
noncomputable def k97:CFn:=gk (cfn Tryz.prog gl Tryz.f97)
theorem kfc:cfn Tryz.prog gl Tryz.f97=some k97:=jbc (by kernel_rfl)
noncomputable def k98:CFn:=gk (cfn Tryz.prog gl Tryz.f98)
theorem kfb:cfn Tryz.prog gl Tryz.f98=some k98:=jbc (by kernel_rfl)
noncomputable def k99:CFn:=gk (cfn Tryz.prog gl Tryz.f99)
theorem kfa:cfn Tryz.prog gl Tryz.f99=some k99:=jbc (by kernel_rfl)
noncomputable def kg1:CFn:=gk (cfn Tryz.prog gl Tryz.f100)
theorem kcn:cfn Tryz.prog gl Tryz.f100=some kg1:=jbc (by kernel_rfl)
noncomputable def kg0:CFn:=gk (cfn Tryz.prog gl Tryz.f101)
theorem kcm:cfn Tryz.prog gl Tryz.f101=some kg0:=jbc (by kernel_rfl)
noncomputable def kgz:CFn:=gk (cfn Tryz.prog gl Tryz.f102)
theorem kcl:cfn Tryz.prog gl Tryz.f102=some kgz:=jbc (by kernel_rfl)
noncomputable def kic:CFn:=gk (cfn Tryz.prog gl Tryz.f103)
theorem kck:cfn Tryz.prog gl Tryz.f103=some kic:=jbc (by kernel_rfl)
noncomputable def kgv:CFn:=gk (cfn Tryz.prog gl Tryz.f132)
theorem kcj:cfn Tryz.prog gl Tryz.f132=some kgv:=jbc (by kernel_rfl)
noncomputable def kgu:CFn:=gk (cfn Tryz.prog gl Tryz.f134)
theorem kci:cfn Tryz.prog gl Tryz.f134=some kgu:=jbc (by kernel_rfl)
noncomputable def kib:CFn:=gk (cfn Tryz.prog gl Tryz.f135)
theorem kch:cfn Tryz.prog gl Tryz.f135=some kib:=jbc (by kernel_rfl)
noncomputable def kia:CFn:=gk (cfn Tryz.prog gl Tryz.f136)
theorem kcg:cfn Tryz.prog gl Tryz.f136=some kia:=jbc (by kernel_rfl)
noncomputable def kh9:CFn:=gk (cfn Tryz.prog gl Tryz.f152)
theorem kcf:cfn Tryz.prog gl Tryz.f152=some kh9:=jbc (by kernel_rfl)
noncomputable def kh8:CFn:=gk (cfn Tryz.prog gl Tryz.f153)
theorem kce:cfn Tryz.prog gl Tryz.f153=some kh8:=jbc (by kernel_rfl)
end
end Vm
end Go.Proofs.YtahplmacekfjgaaGreatDoor
namespace Go.Proofs.YtahplmacekfjgaaGreatDoor
namespace Vm
open Go Go.Vm Go.Vm.W
noncomputable section
set_option maxRecDepth 100000
attribute [local irreducible] k4 k9 k10 k11 k12 k13 k14 k15 k16 k17 k18 k19 k20 k21 k24 k25 k26 k28 k29 k31 k34 k35 k40 k42 k43 k44 k45 k46 k47 k48 k49 k50 k51 k52 k53 k60 k61 k65 k66 k67 k68 k69 k70 k71 k74 k75 k76 k77 k78 k85 k86 k87 k88 k89 k90 k91 k92 k93 k97 k98 k99 kg1 kg0 kgz kic kgv kgu kib kia kh9 kh8
def prog:Tr CFn:=(.n (.n (.n (.n (.n (.n .e (some k31) .e) (some k15) (.n .e (some k47) .e)) none (.n (.n (.n (.n .e (some kib) .e) (some k71) .e) none (.n .e (some kic) .e)) none (.n (.n .e (some k87) .e) none .e))) none (.n (.n (.n (.n .e (some k67) .e) (some k35) (.n .e (some k99) .e)) (some k19) (.n .e (some k51) .e)) (some k11) (.n (.n (.n .e (some k75) .e) (some k43) .e) none (.n (.n .e (some k91) .e) none .e)))) none (.n (.n (.n (.n (.n .e (some k65) .e) none (.n .e (some k97) .e)) (some k17) (.n .e (some k49) .e)) (some k9) (.n .e (some k25) (.n (.n (.n .e (some kh8) .e) (some k89) .e) none .e))) none (.n (.n (.n (.n .e (some k69) .e) none (.n .e (some kg0) .e)) (some k21) (.n (.n .e (some k85) .e) (some k53) .e)) (some k13) (.n (.n (.n .e (some k77) .e) (some k45) .e) (some k29) (.n (.n .e (some k93) .e) (some k61) .e))))) none (.n (.n (.n (.n .e (some k16) (.n .e (some k48) .e)) none (.n (.n (.n (.n .e (some kia) .e) none .e) (some k40) .e) (some k24) (.n (.n (.n .e (some kh9) .e) (some k88) .e) none .e))) (some k4) (.n (.n (.n (.n (.n .e (some kgv) .e) (some k68) .e) none (.n .e (some kg1) .e)) (some k20) (.n .e (some k52) .e)) (some k12) (.n (.n (.n .e (some k76) .e) (some k44) .e) (some k28) (.n (.n .e (some k92) .e) (some k60) .e)))) none (.n (.n (.n (.n (.n .e (some k66) .e) (some k34) (.n .e (some k98) .e)) (some k18) (.n .e (some k50) .e)) (some k10) (.n (.n (.n .e (some k74) .e) (some k42) .e) (some k26) (.n (.n .e (some k90) .e) none .e))) none (.n (.n (.n (.n (.n .e (some kgu) .e) (some k70) .e) none (.n .e (some kgz) .e)) none (.n (.n .e (some k86) .e) none .e)) (some k14) (.n (.n (.n .e (some k78) .e) (some k46) .e) none .e)))))
def kl:List (Nat×CFn):=[(4,k4),(9,k9),(10,k10),(11,k11),(12,k12),(13,k13),(14,k14),(15,k15),(16,k16),(17,k17),(18,k18),(19,k19),(20,k20),(21,k21),(24,k24),(25,k25),(26,k26),(28,k28),(29,k29),(31,k31),(34,k34),(35,k35),(40,k40),(42,k42),(43,k43),(44,k44),(45,k45),(46,k46),(47,k47),(48,k48),(49,k49),(50,k50),(51,k51),(52,k52),(53,k53),(60,k60),(61,k61),(65,k65),(66,k66),(67,k67),(68,k68),(69,k69),(70,k70),(71,k71),(74,k74),(75,k75),(76,k76),(77,k77),(78,k78),(85,k85),(86,k86),(87,k87),(88,k88),(89,k89),(90,k90),(91,k91),(92,k92),(93,k93),(97,k97),(98,k98),(99,k99),(100,kg1),(101,kg0),(102,kgz),(103,kic),(132,kgv),(134,kgu),(135,kib),(136,kia),(152,kh9),(153,kh8)]
theorem ki5:kjy Tryz.prog gl its kl:=⟨⟨Tryz.f4,Tryz.func4,.inl ki7⟩,⟨Tryz.f9,Tryz.func9,.inl ki6⟩,⟨Tryz.f10,Tryz.func10,.inl kgy⟩,⟨Tryz.f11,Tryz.func11,.inl kgx⟩,⟨Tryz.f12,Tryz.func12,.inl kgw⟩,⟨Tryz.f13,Tryz.func13,.inl kgt⟩,⟨Tryz.f14,Tryz.func14,.inl kgs⟩,⟨Tryz.f15,Tryz.func15,.inl kgr⟩,⟨Tryz.f16,Tryz.func16,.inl kgq⟩,⟨Tryz.f17,Tryz.func17,.inl kgp⟩,⟨Tryz.f18,Tryz.func18,.inl kgo⟩,⟨Tryz.f19,Tryz.func19,.inl kgn⟩,⟨Tryz.f20,Tryz.func20,.inl kgm⟩,⟨Tryz.f21,Tryz.func21,.inl kgl⟩,⟨Tryz.f24,Tryz.func24,.inl kgk⟩,⟨Tryz.f25,Tryz.func25,.inl kgj⟩,⟨Tryz.f26,Tryz.func26,.inl kgi⟩,⟨Tryz.f28,Tryz.func28,.inl kgh⟩,⟨Tryz.f29,Tryz.func29,.inl kgg⟩,⟨Tryz.f31,Tryz.func31,.inl kgf⟩,⟨Tryz.f34,Tryz.func34,.inl kge⟩,⟨Tryz.f35,Tryz.func35,.inl kgd⟩,⟨Tryz.f40,Tryz.func40,.inl kgc⟩,⟨Tryz.f42,Tryz.func42,.inl kgb⟩,⟨Tryz.f43,Tryz.func43,.inl kga⟩,⟨Tryz.f44,Tryz.func44,.inl kf9⟩,⟨Tryz.f45,Tryz.func45,.inl kf8⟩,⟨Tryz.f46,Tryz.func46,.inl kf7⟩,⟨Tryz.f47,Tryz.func47,.inl kf6⟩,⟨Tryz.f48,Tryz.func48,.inl kf5⟩,⟨Tryz.f49,Tryz.func49,.inl kf4⟩,⟨Tryz.f50,Tryz.func50,.inl kf3⟩,⟨Tryz.f51,Tryz.func51,.inl kf2⟩,⟨Tryz.f52,Tryz.func52,.inl kf1⟩,⟨Tryz.f53,Tryz.func53,.inl kf0⟩,⟨Tryz.f60,Tryz.func60,.inl kfz⟩,⟨Tryz.f61,Tryz.func61,.inl kfy⟩,⟨Tryz.f65,Tryz.func65,.inl kfx⟩,⟨Tryz.f66,Tryz.func66,.inl kfw⟩,⟨Tryz.f67,Tryz.func67,.inl kfv⟩,⟨Tryz.f68,Tryz.func68,.inl kfu⟩,⟨Tryz.f69,Tryz.func69,.inl kft⟩,⟨Tryz.f70,Tryz.func70,.inl kfs⟩,⟨Tryz.f71,Tryz.func71,.inl kfr⟩,⟨Tryz.f74,Tryz.func74,.inl kfq⟩,⟨Tryz.f75,Tryz.func75,.inl kfp⟩,⟨Tryz.f76,Tryz.func76,.inl kfo⟩,⟨Tryz.f77,Tryz.func77,.inl kfn⟩,⟨Tryz.f78,Tryz.func78,.inl kfm⟩,⟨Tryz.f85,Tryz.func85,.inl kfl⟩,⟨Tryz.f86,Tryz.func86,.inl kfk⟩,⟨Tryz.f87,Tryz.func87,.inl kfj⟩,⟨Tryz.f88,Tryz.func88,.inl kfi⟩,⟨Tryz.f89,Tryz.func89,.inl kfh⟩,⟨Tryz.f90,Tryz.func90,.inl kfg⟩,⟨Tryz.f91,Tryz.func91,.inl kff⟩,⟨Tryz.f92,Tryz.func92,.inl kfe⟩,⟨Tryz.f93,Tryz.func93,.inl kfd⟩,⟨Tryz.f97,Tryz.func97,.inl kfc⟩,⟨Tryz.f98,Tryz.func98,.inl kfb⟩,⟨Tryz.f99,Tryz.func99,.inl kfa⟩,⟨Tryz.f100,Tryz.func100,.inl kcn⟩,⟨Tryz.f101,Tryz.func101,.inl kcm⟩,⟨Tryz.f102,Tryz.func102,.inl kcl⟩,⟨Tryz.f103,Tryz.func103,.inl kck⟩,⟨Tryz.f132,Tryz.func132,.inl kcj⟩,⟨Tryz.f134,Tryz.func134,.inl kci⟩,⟨Tryz.f135,Tryz.func135,.inl kch⟩,⟨Tryz.f136,Tryz.func136,.inl kcg⟩,⟨Tryz.f152,Tryz.func152,.inl kcf⟩,⟨Tryz.f153,Tryz.func153,.inl kce⟩,trivial⟩
theorem kby:prog=ofK kl:=by kernel_rfl
theorem jvs:j29 Tryz.prog gl prog:=kby▸jxq kg2 ki5
end
end Vm
end Go.Proofs.YtahplmacekfjgaaGreatDoor
