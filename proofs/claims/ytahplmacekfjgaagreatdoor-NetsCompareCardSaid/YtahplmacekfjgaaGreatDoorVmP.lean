/-
  The program's text for the machine. (Printed by a program.)
  The program's text for the machine. (Printed by a program.)
  The program's text for the machine. (Printed by a program.)
-/
import Derived.Test.YtahplmacekfjgaaGreatDoorRows
import Derived.Test.YtahplmacekfjgaaGreatDoorVmWG
set_option linter.unusedSimpArgs false
set_option linter.unusedVariables false
set_option linter.unusedSectionVars false
set_option linter.unnecessarySimpa false
namespace Go.Proofs.YtahplmacekfjgaaGreatDoor
namespace Vm
open Go Go.Vm Go.Vm.W
noncomputable section
set_option maxRecDepth 100000
def gl:List Nat:=[0,1,2,3,4,5,6,7]
def nx0:Nat:=8
def ex:List (Nat×List AV):=[]
def es:List (Nat×List AV):=[(4,[(.int .u8 0),(.int .u8 1),(.int .u8 28),(.int .u8 2),(.int .u8 29),(.int .u8 14),(.int .u8 24),(.int .u8 3),(.int .u8 30),(.int .u8 22),(.int .u8 20),(.int .u8 15),(.int .u8 25),(.int .u8 17),(.int .u8 4),(.int .u8 8),(.int .u8 31),(.int .u8 27),(.int .u8 13),(.int .u8 23),(.int .u8 21),(.int .u8 19),(.int .u8 16),(.int .u8 7),(.int .u8 26),(.int .u8 12),(.int .u8 18),(.int .u8 6),(.int .u8 11),(.int .u8 5),(.int .u8 10),(.int .u8 9)]),(5,[(.int .u8 0),(.int .u8 1),(.int .u8 56),(.int .u8 2),(.int .u8 57),(.int .u8 49),(.int .u8 28),(.int .u8 3),(.int .u8 61),(.int .u8 58),(.int .u8 42),(.int .u8 50),(.int .u8 38),(.int .u8 29),(.int .u8 17),(.int .u8 4),(.int .u8 62),(.int .u8 47),(.int .u8 59),(.int .u8 36),(.int .u8 45),(.int .u8 43),(.int .u8 51),(.int .u8 22),(.int .u8 53),(.int .u8 39),(.int .u8 33),(.int .u8 30),(.int .u8 24),(.int .u8 18),(.int .u8 12),(.int .u8 5),(.int .u8 63),(.int .u8 55),(.int .u8 48),(.int .u8 27),(.int .u8 60),(.int .u8 41),(.int .u8 37),(.int .u8 16),(.int .u8 46),(.int .u8 35),(.int .u8 44),(.int .u8 21),(.int .u8 52),(.int .u8 32),(.int .u8 23),(.int .u8 11),(.int .u8 54),(.int .u8 26),(.int .u8 40),(.int .u8 15),(.int .u8 34),(.int .u8 20),(.int .u8 31),(.int .u8 10),(.int .u8 25),(.int .u8 14),(.int .u8 19),(.int .u8 9),(.int .u8 13),(.int .u8 8),(.int .u8 7),(.int .u8 6)]),(0,[(.int .u64 1),(.int .u64 10),(.int .u64 100),(.int .u64 1000),(.int .u64 10000),(.int .u64 100000),(.int .u64 1000000),(.int .u64 10000000),(.int .u64 100000000),(.int .u64 1000000000),(.int .u64 10000000000),(.int .u64 100000000000),(.int .u64 1000000000000),(.int .u64 10000000000000),(.int .u64 100000000000000),(.int .u64 1000000000000000),(.int .u64 10000000000000000),(.int .u64 100000000000000000),(.int .u64 1000000000000000000),(.int .u64 10000000000000000000)])]
def H0:Tr Blk:=(.n (.n .e none (.n .e (some (.cells (.n (.n (.n (.n (.n (.n (.n .e (some (.int .u8 6)) .e) (some (.int .u8 5)) .e) (some (.int .u8 4)) (.n .e (some (.int .u8 11)) .e)) (some (.int .u8 3)) (.n (.n .e (some (.int .u8 16)) .e) (some (.int .u8 22)) (.n .e (some (.int .u8 10)) .e))) (some (.int .u8 2)) (.n (.n (.n .e (some (.int .u8 27)) .e) (some (.int .u8 36)) (.n .e (some (.int .u8 15)) .e)) (some (.int .u8 50)) (.n (.n .e (some (.int .u8 21)) .e) (some (.int .u8 30)) (.n .e (some (.int .u8 9)) .e)))) (some (.int .u8 1)) (.n (.n (.n (.n .e (some (.int .u8 55)) .e) (some (.int .u8 47)) (.n .e (some (.int .u8 26)) .e)) (some (.int .u8 58)) (.n (.n .e (some (.int .u8 35)) .e) (some (.int .u8 39)) (.n .e (some (.int .u8 14)) .e))) (some (.int .u8 49)) (.n (.n (.n .e (some (.int .u8 41)) .e) (some (.int .u8 43)) (.n .e (some (.int .u8 20)) .e)) (some (.int .u8 29)) (.n (.n .e (some (.int .u8 32)) .e) (some (.int .u8 18)) (.n .e (some (.int .u8 8)) .e))))) (some (.int .u8 0)) (.n (.n (.n (.n (.n .e (some (.int .u8 63)) .e) (some (.int .u8 62)) (.n .e (some (.int .u8 54)) .e)) (some (.int .u8 61)) (.n (.n .e (some (.int .u8 46)) .e) (some (.int .u8 53)) (.n .e (some (.int .u8 25)) .e))) (some (.int .u8 57)) (.n (.n (.n .e (some (.int .u8 60)) .e) (some (.int .u8 45)) (.n .e (some (.int .u8 34)) .e)) (some (.int .u8 38)) (.n (.n .e (some (.int .u8 52)) .e) (some (.int .u8 24)) (.n .e (some (.int .u8 13)) .e)))) (some (.int .u8 56)) (.n (.n (.n (.n .e (some (.int .u8 48)) .e) (some (.int .u8 59)) (.n .e (some (.int .u8 40)) .e)) (some (.int .u8 42)) (.n (.n .e (some (.int .u8 44)) .e) (some (.int .u8 33)) (.n .e (some (.int .u8 19)) .e))) (some (.int .u8 28)) (.n (.n (.n .e (some (.int .u8 37)) .e) (some (.int .u8 51)) (.n .e (some (.int .u8 31)) .e)) (some (.int .u8 17)) (.n (.n .e (some (.int .u8 23)) .e) (some (.int .u8 12)) (.n .e (some (.int .u8 7)) .e)))))) 64)) .e)) (some (.cells (.n (.n (.n (.n (.n .e (some (.int .u64 1000000000000000)) .e) (some (.int .u64 10000000)) .e) (some (.int .u64 1000)) (.n (.n .e (some (.int .u64 10000000000000000000)) .e) (some (.int .u64 100000000000)) .e)) (some (.int .u64 10)) (.n (.n (.n .e (some (.int .u64 100000000000000000)) .e) (some (.int .u64 1000000000)) .e) (some (.int .u64 100000)) (.n .e (some (.int .u64 10000000000000)) .e))) (some (.int .u64 1)) (.n (.n (.n (.n .e (some (.int .u64 10000000000000000)) .e) (some (.int .u64 100000000)) .e) (some (.int .u64 10000)) (.n .e (some (.int .u64 1000000000000)) .e)) (some (.int .u64 100)) (.n (.n (.n .e (some (.int .u64 1000000000000000000)) .e) (some (.int .u64 10000000000)) .e) (some (.int .u64 1000000)) (.n .e (some (.int .u64 100000000000000)) .e)))) 20)) (.n (.n .e (some (.cells (.n (.n (.n (.n (.n (.n .e (some (.int .u8 9)) .e) (some (.int .u8 8)) .e) (some (.int .u8 3)) (.n .e (some (.int .u8 7)) .e)) (some (.int .u8 2)) (.n (.n .e (some (.int .u8 23)) .e) (some (.int .u8 15)) (.n .e (some (.int .u8 6)) .e))) (some (.int .u8 1)) (.n (.n (.n .e (some (.int .u8 27)) .e) (some (.int .u8 22)) (.n .e (some (.int .u8 12)) .e)) (some (.int .u8 14)) (.n (.n .e (some (.int .u8 19)) .e) (some (.int .u8 17)) (.n .e (some (.int .u8 5)) .e)))) (some (.int .u8 0)) (.n (.n (.n (.n .e (some (.int .u8 31)) .e) (some (.int .u8 30)) (.n .e (some (.int .u8 26)) .e)) (some (.int .u8 29)) (.n (.n .e (some (.int .u8 21)) .e) (some (.int .u8 25)) (.n .e (some (.int .u8 11)) .e))) (some (.int .u8 28)) (.n (.n (.n .e (some (.int .u8 13)) .e) (some (.int .u8 20)) (.n .e (some (.int .u8 18)) .e)) (some (.int .u8 24)) (.n (.n .e (some (.int .u8 16)) .e) (some (.int .u8 4)) (.n .e (some (.int .u8 10)) .e))))) 32)) .e) none .e))
abbrev its:Its:=[]
theorem its_ok:ItsOK Tryz.prog gl its:=noIts_ok
def laidS:List (String×DataW Unit):=(Rows.netsCompareRow.laid.zipIdx.filter fun x=>[0,1,2].contains x.2).map (·.1)
theorem es_ok:entsOf Tryz.prog laidS=some es:=by kernel_rfl
theorem H0_eq (_:Int):ofEnts (ex++es)=H0:=by kernel_rfl
def BB (_:Int):Base:=⟨H0,nx0⟩
theorem BB_wf (mx:Int):WF (BB mx).H0 (BB mx).nx0:=by
 show WF H0 nx0
 rw[←H0_eq mx]
 exact WF_ents (by kernel_rfl)
theorem mixed:Tryz.prog.follows .mixedOrders=true:=by kernel_rfl
end
end Vm
end Go.Proofs.YtahplmacekfjgaaGreatDoor
namespace Go.Proofs.YtahplmacekfjgaaGreatDoor
namespace Vm
open Go Go.Vm Go.Vm.W
noncomputable section
set_option maxRecDepth 100000
noncomputable def k3:CFn:=gk (cfn Tryz.prog gl Tryz.f3)
theorem k3_ok:cfn Tryz.prog gl Tryz.f3=some k3:=gk_ok (by kernel_rfl)
noncomputable def k7:CFn:=gk (cfn Tryz.prog gl Tryz.f7)
theorem k7_ok:cfn Tryz.prog gl Tryz.f7=some k7:=gk_ok (by kernel_rfl)
noncomputable def k9:CFn:=gk (cfn Tryz.prog gl Tryz.f9)
theorem k9_ok:cfn Tryz.prog gl Tryz.f9=some k9:=gk_ok (by kernel_rfl)
noncomputable def k10:CFn:=gk (cfn Tryz.prog gl Tryz.f10)
theorem k10_ok:cfn Tryz.prog gl Tryz.f10=some k10:=gk_ok (by kernel_rfl)
noncomputable def k12:CFn:=gk (cfn Tryz.prog gl Tryz.f12)
theorem k12_ok:cfn Tryz.prog gl Tryz.f12=some k12:=gk_ok (by kernel_rfl)
noncomputable def k13:CFn:=gk (cfn Tryz.prog gl Tryz.f13)
theorem k13_ok:cfn Tryz.prog gl Tryz.f13=some k13:=gk_ok (by kernel_rfl)
noncomputable def k14:CFn:=gk (cfn Tryz.prog gl Tryz.f14)
theorem k14_ok:cfn Tryz.prog gl Tryz.f14=some k14:=gk_ok (by kernel_rfl)
noncomputable def k16:CFn:=gk (cfn Tryz.prog gl Tryz.f16)
theorem k16_ok:cfn Tryz.prog gl Tryz.f16=some k16:=gk_ok (by kernel_rfl)
noncomputable def k21:CFn:=gk (cfn Tryz.prog gl Tryz.f21)
theorem k21_ok:cfn Tryz.prog gl Tryz.f21=some k21:=gk_ok (by kernel_rfl)
noncomputable def k24:CFn:=gk (cfn Tryz.prog gl Tryz.f24)
theorem k24_ok:cfn Tryz.prog gl Tryz.f24=some k24:=gk_ok (by kernel_rfl)
noncomputable def k25:CFn:=gk (cfn Tryz.prog gl Tryz.f25)
theorem k25_ok:cfn Tryz.prog gl Tryz.f25=some k25:=gk_ok (by kernel_rfl)
noncomputable def k26:CFn:=gk (cfn Tryz.prog gl Tryz.f26)
theorem k26_ok:cfn Tryz.prog gl Tryz.f26=some k26:=gk_ok (by kernel_rfl)
noncomputable def k28:CFn:=gk (cfn Tryz.prog gl Tryz.f28)
theorem k28_ok:cfn Tryz.prog gl Tryz.f28=some k28:=gk_ok (by kernel_rfl)
noncomputable def k29:CFn:=gk (cfn Tryz.prog gl Tryz.f29)
theorem k29_ok:cfn Tryz.prog gl Tryz.f29=some k29:=gk_ok (by kernel_rfl)
noncomputable def k30:CFn:=gk (cfn Tryz.prog gl Tryz.f30)
theorem k30_ok:cfn Tryz.prog gl Tryz.f30=some k30:=gk_ok (by kernel_rfl)
noncomputable def k31:CFn:=gk (cfn Tryz.prog gl Tryz.f31)
theorem k31_ok:cfn Tryz.prog gl Tryz.f31=some k31:=gk_ok (by kernel_rfl)
noncomputable def k32:CFn:=gk (cfn Tryz.prog gl Tryz.f32)
theorem k32_ok:cfn Tryz.prog gl Tryz.f32=some k32:=gk_ok (by kernel_rfl)
noncomputable def k33:CFn:=gk (cfn Tryz.prog gl Tryz.f33)
theorem k33_ok:cfn Tryz.prog gl Tryz.f33=some k33:=gk_ok (by kernel_rfl)
noncomputable def k34:CFn:=gk (cfn Tryz.prog gl Tryz.f34)
theorem k34_ok:cfn Tryz.prog gl Tryz.f34=some k34:=gk_ok (by kernel_rfl)
noncomputable def k35:CFn:=gk (cfn Tryz.prog gl Tryz.f35)
theorem k35_ok:cfn Tryz.prog gl Tryz.f35=some k35:=gk_ok (by kernel_rfl)
noncomputable def k36:CFn:=gk (cfn Tryz.prog gl Tryz.f36)
theorem k36_ok:cfn Tryz.prog gl Tryz.f36=some k36:=gk_ok (by kernel_rfl)
noncomputable def k40:CFn:=gk (cfn Tryz.prog gl Tryz.f40)
theorem k40_ok:cfn Tryz.prog gl Tryz.f40=some k40:=gk_ok (by kernel_rfl)
noncomputable def k42:CFn:=gk (cfn Tryz.prog gl Tryz.f42)
theorem k42_ok:cfn Tryz.prog gl Tryz.f42=some k42:=gk_ok (by kernel_rfl)
noncomputable def k43:CFn:=gk (cfn Tryz.prog gl Tryz.f43)
theorem k43_ok:cfn Tryz.prog gl Tryz.f43=some k43:=gk_ok (by kernel_rfl)
noncomputable def k44:CFn:=gk (cfn Tryz.prog gl Tryz.f44)
theorem k44_ok:cfn Tryz.prog gl Tryz.f44=some k44:=gk_ok (by kernel_rfl)
noncomputable def k45:CFn:=gk (cfn Tryz.prog gl Tryz.f45)
theorem k45_ok:cfn Tryz.prog gl Tryz.f45=some k45:=gk_ok (by kernel_rfl)
noncomputable def k46:CFn:=gk (cfn Tryz.prog gl Tryz.f46)
theorem k46_ok:cfn Tryz.prog gl Tryz.f46=some k46:=gk_ok (by kernel_rfl)
noncomputable def k47:CFn:=gk (cfn Tryz.prog gl Tryz.f47)
theorem k47_ok:cfn Tryz.prog gl Tryz.f47=some k47:=gk_ok (by kernel_rfl)
noncomputable def k48:CFn:=gk (cfn Tryz.prog gl Tryz.f48)
theorem k48_ok:cfn Tryz.prog gl Tryz.f48=some k48:=gk_ok (by kernel_rfl)
noncomputable def k49:CFn:=gk (cfn Tryz.prog gl Tryz.f49)
theorem k49_ok:cfn Tryz.prog gl Tryz.f49=some k49:=gk_ok (by kernel_rfl)
noncomputable def k51:CFn:=gk (cfn Tryz.prog gl Tryz.f51)
theorem k51_ok:cfn Tryz.prog gl Tryz.f51=some k51:=gk_ok (by kernel_rfl)
noncomputable def k53:CFn:=gk (cfn Tryz.prog gl Tryz.f53)
theorem k53_ok:cfn Tryz.prog gl Tryz.f53=some k53:=gk_ok (by kernel_rfl)
noncomputable def k60:CFn:=gk (cfn Tryz.prog gl Tryz.f60)
theorem k60_ok:cfn Tryz.prog gl Tryz.f60=some k60:=gk_ok (by kernel_rfl)
noncomputable def k61:CFn:=gk (cfn Tryz.prog gl Tryz.f61)
theorem k61_ok:cfn Tryz.prog gl Tryz.f61=some k61:=gk_ok (by kernel_rfl)
noncomputable def k62:CFn:=gk (cfn Tryz.prog gl Tryz.f62)
theorem k62_ok:cfn Tryz.prog gl Tryz.f62=some k62:=gk_ok (by kernel_rfl)
noncomputable def k65:CFn:=gk (cfn Tryz.prog gl Tryz.f65)
theorem k65_ok:cfn Tryz.prog gl Tryz.f65=some k65:=gk_ok (by kernel_rfl)
noncomputable def k66:CFn:=gk (cfn Tryz.prog gl Tryz.f66)
theorem k66_ok:cfn Tryz.prog gl Tryz.f66=some k66:=gk_ok (by kernel_rfl)
noncomputable def k67:CFn:=gk (cfn Tryz.prog gl Tryz.f67)
theorem k67_ok:cfn Tryz.prog gl Tryz.f67=some k67:=gk_ok (by kernel_rfl)
noncomputable def k68:CFn:=gk (cfn Tryz.prog gl Tryz.f68)
theorem k68_ok:cfn Tryz.prog gl Tryz.f68=some k68:=gk_ok (by kernel_rfl)
noncomputable def k69:CFn:=gk (cfn Tryz.prog gl Tryz.f69)
theorem k69_ok:cfn Tryz.prog gl Tryz.f69=some k69:=gk_ok (by kernel_rfl)
noncomputable def k70:CFn:=gk (cfn Tryz.prog gl Tryz.f70)
theorem k70_ok:cfn Tryz.prog gl Tryz.f70=some k70:=gk_ok (by kernel_rfl)
noncomputable def k71:CFn:=gk (cfn Tryz.prog gl Tryz.f71)
theorem k71_ok:cfn Tryz.prog gl Tryz.f71=some k71:=gk_ok (by kernel_rfl)
noncomputable def k74:CFn:=gk (cfn Tryz.prog gl Tryz.f74)
theorem k74_ok:cfn Tryz.prog gl Tryz.f74=some k74:=gk_ok (by kernel_rfl)
noncomputable def k77:CFn:=gk (cfn Tryz.prog gl Tryz.f77)
theorem k77_ok:cfn Tryz.prog gl Tryz.f77=some k77:=gk_ok (by kernel_rfl)
noncomputable def k78:CFn:=gk (cfn Tryz.prog gl Tryz.f78)
theorem k78_ok:cfn Tryz.prog gl Tryz.f78=some k78:=gk_ok (by kernel_rfl)
noncomputable def k85:CFn:=gk (cfn Tryz.prog gl Tryz.f85)
theorem k85_ok:cfn Tryz.prog gl Tryz.f85=some k85:=gk_ok (by kernel_rfl)
noncomputable def k86:CFn:=gk (cfn Tryz.prog gl Tryz.f86)
theorem k86_ok:cfn Tryz.prog gl Tryz.f86=some k86:=gk_ok (by kernel_rfl)
noncomputable def k87:CFn:=gk (cfn Tryz.prog gl Tryz.f87)
theorem k87_ok:cfn Tryz.prog gl Tryz.f87=some k87:=gk_ok (by kernel_rfl)
noncomputable def k88:CFn:=gk (cfn Tryz.prog gl Tryz.f88)
theorem k88_ok:cfn Tryz.prog gl Tryz.f88=some k88:=gk_ok (by kernel_rfl)
noncomputable def k89:CFn:=gk (cfn Tryz.prog gl Tryz.f89)
theorem k89_ok:cfn Tryz.prog gl Tryz.f89=some k89:=gk_ok (by kernel_rfl)
noncomputable def k90:CFn:=gk (cfn Tryz.prog gl Tryz.f90)
theorem k90_ok:cfn Tryz.prog gl Tryz.f90=some k90:=gk_ok (by kernel_rfl)
noncomputable def k91:CFn:=gk (cfn Tryz.prog gl Tryz.f91)
theorem k91_ok:cfn Tryz.prog gl Tryz.f91=some k91:=gk_ok (by kernel_rfl)
noncomputable def k92:CFn:=gk (cfn Tryz.prog gl Tryz.f92)
theorem k92_ok:cfn Tryz.prog gl Tryz.f92=some k92:=gk_ok (by kernel_rfl)
noncomputable def k93:CFn:=gk (cfn Tryz.prog gl Tryz.f93)
theorem k93_ok:cfn Tryz.prog gl Tryz.f93=some k93:=gk_ok (by kernel_rfl)
noncomputable def k97:CFn:=gk (cfn Tryz.prog gl Tryz.f97)
theorem k97_ok:cfn Tryz.prog gl Tryz.f97=some k97:=gk_ok (by kernel_rfl)
noncomputable def k100:CFn:=gk (cfn Tryz.prog gl Tryz.f100)
theorem k100_ok:cfn Tryz.prog gl Tryz.f100=some k100:=gk_ok (by kernel_rfl)
noncomputable def k101:CFn:=gk (cfn Tryz.prog gl Tryz.f101)
theorem k101_ok:cfn Tryz.prog gl Tryz.f101=some k101:=gk_ok (by kernel_rfl)
noncomputable def k102:CFn:=gk (cfn Tryz.prog gl Tryz.f102)
theorem k102_ok:cfn Tryz.prog gl Tryz.f102=some k102:=gk_ok (by kernel_rfl)
noncomputable def k103:CFn:=gk (cfn Tryz.prog gl Tryz.f103)
theorem k103_ok:cfn Tryz.prog gl Tryz.f103=some k103:=gk_ok (by kernel_rfl)
noncomputable def k134:CFn:=gk (cfn Tryz.prog gl Tryz.f134)
theorem k134_ok:cfn Tryz.prog gl Tryz.f134=some k134:=gk_ok (by kernel_rfl)
noncomputable def k135:CFn:=gk (cfn Tryz.prog gl Tryz.f135)
theorem k135_ok:cfn Tryz.prog gl Tryz.f135=some k135:=gk_ok (by kernel_rfl)
noncomputable def k136:CFn:=gk (cfn Tryz.prog gl Tryz.f136)
theorem k136_ok:cfn Tryz.prog gl Tryz.f136=some k136:=gk_ok (by kernel_rfl)
noncomputable def k152:CFn:=gk (cfn Tryz.prog gl Tryz.f152)
theorem k152_ok:cfn Tryz.prog gl Tryz.f152=some k152:=gk_ok (by kernel_rfl)
noncomputable def k153:CFn:=gk (cfn Tryz.prog gl Tryz.f153)
theorem k153_ok:cfn Tryz.prog gl Tryz.f153=some k153:=gk_ok (by kernel_rfl)
end
end Vm
end Go.Proofs.YtahplmacekfjgaaGreatDoor
namespace Go.Proofs.YtahplmacekfjgaaGreatDoor
namespace Vm
open Go Go.Vm Go.Vm.W
noncomputable section
set_option maxRecDepth 100000
attribute [local irreducible] k3 k7 k9 k10 k12 k13 k14 k16 k21 k24 k25 k26 k28 k29 k30 k31 k32 k33 k34 k35 k36 k40 k42 k43 k44 k45 k46 k47 k48 k49 k51 k53 k60 k61 k62 k65 k66 k67 k68 k69 k70 k71 k74 k77 k78 k85 k86 k87 k88 k89 k90 k91 k92 k93 k97 k100 k101 k102 k103 k134 k135 k136 k152 k153
def prog:Tr CFn:=(.n (.n (.n (.n (.n (.n .e (some k31) .e) none (.n .e (some k47) .e)) (some k7) (.n (.n (.n (.n .e (some k135) .e) (some k71) .e) none (.n .e (some k103) .e)) none (.n (.n .e (some k87) .e) none .e))) (some k3) (.n (.n (.n (.n .e (some k67) .e) (some k35) .e) none (.n .e (some k51) .e)) none (.n (.n .e (some k43) .e) none (.n (.n .e (some k91) .e) none .e)))) none (.n (.n (.n (.n (.n .e (some k65) .e) (some k33) (.n .e (some k97) .e)) none (.n .e (some k49) .e)) (some k9) (.n .e (some k25) (.n (.n (.n .e (some k153) .e) (some k89) .e) none .e))) none (.n (.n (.n (.n .e (some k69) .e) none (.n .e (some k101) .e)) (some k21) (.n (.n .e (some k85) .e) (some k53) .e)) (some k13) (.n (.n (.n .e (some k77) .e) (some k45) .e) (some k29) (.n (.n .e (some k93) .e) (some k61) .e))))) none (.n (.n (.n (.n (.n .e (some k32) .e) (some k16) (.n .e (some k48) .e)) none (.n (.n (.n (.n .e (some k136) .e) none .e) (some k40) .e) (some k24) (.n (.n (.n .e (some k152) .e) (some k88) .e) none .e))) none (.n (.n (.n (.n .e (some k68) .e) (some k36) (.n .e (some k100) .e)) none .e) (some k12) (.n (.n .e (some k44) .e) (some k28) (.n (.n .e (some k92) .e) (some k60) .e)))) none (.n (.n (.n (.n (.n .e (some k66) .e) (some k34) .e) none .e) (some k10) (.n (.n (.n .e (some k74) .e) (some k42) .e) (some k26) (.n (.n .e (some k90) .e) none .e))) none (.n (.n (.n (.n (.n .e (some k134) .e) (some k70) .e) none (.n .e (some k102) .e)) none (.n (.n .e (some k86) .e) none .e)) (some k14) (.n (.n (.n .e (some k78) .e) (some k46) .e) (some k30) (.n .e (some k62) .e))))))
def kl:List (Nat×CFn):=[(3,k3),(7,k7),(9,k9),(10,k10),(12,k12),(13,k13),(14,k14),(16,k16),(21,k21),(24,k24),(25,k25),(26,k26),(28,k28),(29,k29),(30,k30),(31,k31),(32,k32),(33,k33),(34,k34),(35,k35),(36,k36),(40,k40),(42,k42),(43,k43),(44,k44),(45,k45),(46,k46),(47,k47),(48,k48),(49,k49),(51,k51),(53,k53),(60,k60),(61,k61),(62,k62),(65,k65),(66,k66),(67,k67),(68,k68),(69,k69),(70,k70),(71,k71),(74,k74),(77,k77),(78,k78),(85,k85),(86,k86),(87,k87),(88,k88),(89,k89),(90,k90),(91,k91),(92,k92),(93,k93),(97,k97),(100,k100),(101,k101),(102,k102),(103,k103),(134,k134),(135,k135),(136,k136),(152,k152),(153,k153)]
theorem kl_ok:AllK Tryz.prog gl its kl:=⟨⟨Tryz.f3,Tryz.func3,.inl k3_ok⟩,⟨Tryz.f7,Tryz.func7,.inl k7_ok⟩,⟨Tryz.f9,Tryz.func9,.inl k9_ok⟩,⟨Tryz.f10,Tryz.func10,.inl k10_ok⟩,⟨Tryz.f12,Tryz.func12,.inl k12_ok⟩,⟨Tryz.f13,Tryz.func13,.inl k13_ok⟩,⟨Tryz.f14,Tryz.func14,.inl k14_ok⟩,⟨Tryz.f16,Tryz.func16,.inl k16_ok⟩,⟨Tryz.f21,Tryz.func21,.inl k21_ok⟩,⟨Tryz.f24,Tryz.func24,.inl k24_ok⟩,⟨Tryz.f25,Tryz.func25,.inl k25_ok⟩,⟨Tryz.f26,Tryz.func26,.inl k26_ok⟩,⟨Tryz.f28,Tryz.func28,.inl k28_ok⟩,⟨Tryz.f29,Tryz.func29,.inl k29_ok⟩,⟨Tryz.f30,Tryz.func30,.inl k30_ok⟩,⟨Tryz.f31,Tryz.func31,.inl k31_ok⟩,⟨Tryz.f32,Tryz.func32,.inl k32_ok⟩,⟨Tryz.f33,Tryz.func33,.inl k33_ok⟩,⟨Tryz.f34,Tryz.func34,.inl k34_ok⟩,⟨Tryz.f35,Tryz.func35,.inl k35_ok⟩,⟨Tryz.f36,Tryz.func36,.inl k36_ok⟩,⟨Tryz.f40,Tryz.func40,.inl k40_ok⟩,⟨Tryz.f42,Tryz.func42,.inl k42_ok⟩,⟨Tryz.f43,Tryz.func43,.inl k43_ok⟩,⟨Tryz.f44,Tryz.func44,.inl k44_ok⟩,⟨Tryz.f45,Tryz.func45,.inl k45_ok⟩,⟨Tryz.f46,Tryz.func46,.inl k46_ok⟩,⟨Tryz.f47,Tryz.func47,.inl k47_ok⟩,⟨Tryz.f48,Tryz.func48,.inl k48_ok⟩,⟨Tryz.f49,Tryz.func49,.inl k49_ok⟩,⟨Tryz.f51,Tryz.func51,.inl k51_ok⟩,⟨Tryz.f53,Tryz.func53,.inl k53_ok⟩,⟨Tryz.f60,Tryz.func60,.inl k60_ok⟩,⟨Tryz.f61,Tryz.func61,.inl k61_ok⟩,⟨Tryz.f62,Tryz.func62,.inl k62_ok⟩,⟨Tryz.f65,Tryz.func65,.inl k65_ok⟩,⟨Tryz.f66,Tryz.func66,.inl k66_ok⟩,⟨Tryz.f67,Tryz.func67,.inl k67_ok⟩,⟨Tryz.f68,Tryz.func68,.inl k68_ok⟩,⟨Tryz.f69,Tryz.func69,.inl k69_ok⟩,⟨Tryz.f70,Tryz.func70,.inl k70_ok⟩,⟨Tryz.f71,Tryz.func71,.inl k71_ok⟩,⟨Tryz.f74,Tryz.func74,.inl k74_ok⟩,⟨Tryz.f77,Tryz.func77,.inl k77_ok⟩,⟨Tryz.f78,Tryz.func78,.inl k78_ok⟩,⟨Tryz.f85,Tryz.func85,.inl k85_ok⟩,⟨Tryz.f86,Tryz.func86,.inl k86_ok⟩,⟨Tryz.f87,Tryz.func87,.inl k87_ok⟩,⟨Tryz.f88,Tryz.func88,.inl k88_ok⟩,⟨Tryz.f89,Tryz.func89,.inl k89_ok⟩,⟨Tryz.f90,Tryz.func90,.inl k90_ok⟩,⟨Tryz.f91,Tryz.func91,.inl k91_ok⟩,⟨Tryz.f92,Tryz.func92,.inl k92_ok⟩,⟨Tryz.f93,Tryz.func93,.inl k93_ok⟩,⟨Tryz.f97,Tryz.func97,.inl k97_ok⟩,⟨Tryz.f100,Tryz.func100,.inl k100_ok⟩,⟨Tryz.f101,Tryz.func101,.inl k101_ok⟩,⟨Tryz.f102,Tryz.func102,.inl k102_ok⟩,⟨Tryz.f103,Tryz.func103,.inl k103_ok⟩,⟨Tryz.f134,Tryz.func134,.inl k134_ok⟩,⟨Tryz.f135,Tryz.func135,.inl k135_ok⟩,⟨Tryz.f136,Tryz.func136,.inl k136_ok⟩,⟨Tryz.f152,Tryz.func152,.inl k152_ok⟩,⟨Tryz.f153,Tryz.func153,.inl k153_ok⟩,trivial⟩
theorem prog_eq:prog=ofK kl:=by kernel_rfl
theorem prog_ok:ProgOK Tryz.prog gl prog:=prog_eq▸progOK_of its_ok kl_ok
end
end Vm
end Go.Proofs.YtahplmacekfjgaaGreatDoor
