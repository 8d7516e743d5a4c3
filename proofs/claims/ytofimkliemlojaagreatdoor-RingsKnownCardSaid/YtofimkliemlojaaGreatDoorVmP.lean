/-
  The program's text for the machine. (Printed by a program.)
  The program's text for the machine. (Printed by a program.)
  The program's text for the machine. (Printed by a program.)
-/
import Derived.Test.YtofimkliemlojaaGreatDoorRows
import Derived.Test.YtofimkliemlojaaGreatDoorIt
set_option linter.unusedSimpArgs false
set_option linter.unusedVariables false
set_option linter.unusedSectionVars false
set_option linter.unnecessarySimpa false
namespace Go.Proofs.YtofimkliemlojaaGreatDoor
namespace Vm
open Go Go.Vm Go.Vm.W
noncomputable section
set_option maxRecDepth 100000
def gl:List Nat:=[0,1,2,3,4]
def nx0:Nat:=5
def ex:List (Nat×List AV):=[]
def es:List (Nat×List AV):=[(3,[(.int .u8 0),(.int .u8 1),(.int .u8 28),(.int .u8 2),(.int .u8 29),(.int .u8 14),(.int .u8 24),(.int .u8 3),(.int .u8 30),(.int .u8 22),(.int .u8 20),(.int .u8 15),(.int .u8 25),(.int .u8 17),(.int .u8 4),(.int .u8 8),(.int .u8 31),(.int .u8 27),(.int .u8 13),(.int .u8 23),(.int .u8 21),(.int .u8 19),(.int .u8 16),(.int .u8 7),(.int .u8 26),(.int .u8 12),(.int .u8 18),(.int .u8 6),(.int .u8 11),(.int .u8 5),(.int .u8 10),(.int .u8 9)]),(4,[(.int .u8 0),(.int .u8 1),(.int .u8 56),(.int .u8 2),(.int .u8 57),(.int .u8 49),(.int .u8 28),(.int .u8 3),(.int .u8 61),(.int .u8 58),(.int .u8 42),(.int .u8 50),(.int .u8 38),(.int .u8 29),(.int .u8 17),(.int .u8 4),(.int .u8 62),(.int .u8 47),(.int .u8 59),(.int .u8 36),(.int .u8 45),(.int .u8 43),(.int .u8 51),(.int .u8 22),(.int .u8 53),(.int .u8 39),(.int .u8 33),(.int .u8 30),(.int .u8 24),(.int .u8 18),(.int .u8 12),(.int .u8 5),(.int .u8 63),(.int .u8 55),(.int .u8 48),(.int .u8 27),(.int .u8 60),(.int .u8 41),(.int .u8 37),(.int .u8 16),(.int .u8 46),(.int .u8 35),(.int .u8 44),(.int .u8 21),(.int .u8 52),(.int .u8 32),(.int .u8 23),(.int .u8 11),(.int .u8 54),(.int .u8 26),(.int .u8 40),(.int .u8 15),(.int .u8 34),(.int .u8 20),(.int .u8 31),(.int .u8 10),(.int .u8 25),(.int .u8 14),(.int .u8 19),(.int .u8 9),(.int .u8 13),(.int .u8 8),(.int .u8 7),(.int .u8 6)]),(1,[(.int .u64 1),(.int .u64 10),(.int .u64 100),(.int .u64 1000),(.int .u64 10000),(.int .u64 100000),(.int .u64 1000000),(.int .u64 10000000),(.int .u64 100000000),(.int .u64 1000000000),(.int .u64 10000000000),(.int .u64 100000000000),(.int .u64 1000000000000),(.int .u64 10000000000000),(.int .u64 100000000000000),(.int .u64 1000000000000000),(.int .u64 10000000000000000),(.int .u64 100000000000000000),(.int .u64 1000000000000000000),(.int .u64 10000000000000000000)]),(0,[(.str []),(.str [109]),(.str [118]),(.str [97])])]
def H0:Tr Blk:=(.n (.n (.n .e (some (.cells (.n (.n (.n (.n (.n (.n .e (some (.int .u8 9)) .e) (some (.int .u8 8)) .e) (some (.int .u8 3)) (.n .e (some (.int .u8 7)) .e)) (some (.int .u8 2)) (.n (.n .e (some (.int .u8 23)) .e) (some (.int .u8 15)) (.n .e (some (.int .u8 6)) .e))) (some (.int .u8 1)) (.n (.n (.n .e (some (.int .u8 27)) .e) (some (.int .u8 22)) (.n .e (some (.int .u8 12)) .e)) (some (.int .u8 14)) (.n (.n .e (some (.int .u8 19)) .e) (some (.int .u8 17)) (.n .e (some (.int .u8 5)) .e)))) (some (.int .u8 0)) (.n (.n (.n (.n .e (some (.int .u8 31)) .e) (some (.int .u8 30)) (.n .e (some (.int .u8 26)) .e)) (some (.int .u8 29)) (.n (.n .e (some (.int .u8 21)) .e) (some (.int .u8 25)) (.n .e (some (.int .u8 11)) .e))) (some (.int .u8 28)) (.n (.n (.n .e (some (.int .u8 13)) .e) (some (.int .u8 20)) (.n .e (some (.int .u8 18)) .e)) (some (.int .u8 24)) (.n (.n .e (some (.int .u8 16)) .e) (some (.int .u8 4)) (.n .e (some (.int .u8 10)) .e))))) 32)) .e) (some (.cells (.n (.n (.n (.n (.n .e (some (.int .u64 1000000000000000)) .e) (some (.int .u64 10000000)) .e) (some (.int .u64 1000)) (.n (.n .e (some (.int .u64 10000000000000000000)) .e) (some (.int .u64 100000000000)) .e)) (some (.int .u64 10)) (.n (.n (.n .e (some (.int .u64 100000000000000000)) .e) (some (.int .u64 1000000000)) .e) (some (.int .u64 100000)) (.n .e (some (.int .u64 10000000000000)) .e))) (some (.int .u64 1)) (.n (.n (.n (.n .e (some (.int .u64 10000000000000000)) .e) (some (.int .u64 100000000)) .e) (some (.int .u64 10000)) (.n .e (some (.int .u64 1000000000000)) .e)) (some (.int .u64 100)) (.n (.n (.n .e (some (.int .u64 1000000000000000000)) .e) (some (.int .u64 10000000000)) .e) (some (.int .u64 1000000)) (.n .e (some (.int .u64 100000000000000)) .e)))) 20)) .e) (some (.cells (.n (.n (.n .e (some (.str [97])) .e) (some (.str [109])) .e) (some (.str [])) (.n .e (some (.str [118])) .e)) 4)) (.n (.n .e (some (.cells (.n (.n (.n (.n (.n (.n (.n .e (some (.int .u8 6)) .e) (some (.int .u8 5)) .e) (some (.int .u8 4)) (.n .e (some (.int .u8 11)) .e)) (some (.int .u8 3)) (.n (.n .e (some (.int .u8 16)) .e) (some (.int .u8 22)) (.n .e (some (.int .u8 10)) .e))) (some (.int .u8 2)) (.n (.n (.n .e (some (.int .u8 27)) .e) (some (.int .u8 36)) (.n .e (some (.int .u8 15)) .e)) (some (.int .u8 50)) (.n (.n .e (some (.int .u8 21)) .e) (some (.int .u8 30)) (.n .e (some (.int .u8 9)) .e)))) (some (.int .u8 1)) (.n (.n (.n (.n .e (some (.int .u8 55)) .e) (some (.int .u8 47)) (.n .e (some (.int .u8 26)) .e)) (some (.int .u8 58)) (.n (.n .e (some (.int .u8 35)) .e) (some (.int .u8 39)) (.n .e (some (.int .u8 14)) .e))) (some (.int .u8 49)) (.n (.n (.n .e (some (.int .u8 41)) .e) (some (.int .u8 43)) (.n .e (some (.int .u8 20)) .e)) (some (.int .u8 29)) (.n (.n .e (some (.int .u8 32)) .e) (some (.int .u8 18)) (.n .e (some (.int .u8 8)) .e))))) (some (.int .u8 0)) (.n (.n (.n (.n (.n .e (some (.int .u8 63)) .e) (some (.int .u8 62)) (.n .e (some (.int .u8 54)) .e)) (some (.int .u8 61)) (.n (.n .e (some (.int .u8 46)) .e) (some (.int .u8 53)) (.n .e (some (.int .u8 25)) .e))) (some (.int .u8 57)) (.n (.n (.n .e (some (.int .u8 60)) .e) (some (.int .u8 45)) (.n .e (some (.int .u8 34)) .e)) (some (.int .u8 38)) (.n (.n .e (some (.int .u8 52)) .e) (some (.int .u8 24)) (.n .e (some (.int .u8 13)) .e)))) (some (.int .u8 56)) (.n (.n (.n (.n .e (some (.int .u8 48)) .e) (some (.int .u8 59)) (.n .e (some (.int .u8 40)) .e)) (some (.int .u8 42)) (.n (.n .e (some (.int .u8 44)) .e) (some (.int .u8 33)) (.n .e (some (.int .u8 19)) .e))) (some (.int .u8 28)) (.n (.n (.n .e (some (.int .u8 37)) .e) (some (.int .u8 51)) (.n .e (some (.int .u8 31)) .e)) (some (.int .u8 17)) (.n (.n .e (some (.int .u8 23)) .e) (some (.int .u8 12)) (.n .e (some (.int .u8 7)) .e)))))) 64)) .e) none .e))
abbrev its:Its:=Go.Vm.X.itsL
theorem kmh:j1l Tryz.prog gl its:=Go.Vm.X.itsL_ok
def khq:List (String×DataW Unit):=(Rows.ringsKnownRow.laid.zipIdx.filter fun x=>[0,1,2,3].contains x.2).map (·.1)
theorem koo:jyw Tryz.prog khq=some es:=by kernel_rfl
theorem ki9 (_:Int):jl2 (ex++es)=H0:=by kernel_rfl
def BB (_:Int):Base:=⟨H0,nx0⟩
theorem kox (mx:Int):WF (BB mx).H0 (BB mx).nx0:=by
 show WF H0 nx0
 rw[←ki9 mx]
 exact ki1 (by kernel_rfl)
theorem mixed:Tryz.prog.follows .mixedOrders=true:=by kernel_rfl
end
end Vm
end Go.Proofs.YtofimkliemlojaaGreatDoor
namespace Go.Proofs.YtofimkliemlojaaGreatDoor
namespace Vm
open Go Go.Vm Go.Vm.W
noncomputable section
set_option maxRecDepth 100000
noncomputable def k3:CFn:=gk (cfn Tryz.prog gl Tryz.f3)
theorem koh:cfn Tryz.prog gl Tryz.f3=some k3:=jaw (by kernel_rfl)
noncomputable def k4:CFn:=gk (cfn Tryz.prog gl Tryz.f4)
theorem kog:cfn Tryz.prog gl Tryz.f4=some k4:=jaw (by kernel_rfl)
noncomputable def k5:CFn:=gk (cfn Tryz.prog gl Tryz.f5)
theorem kof:cfn Tryz.prog gl Tryz.f5=some k5:=jaw (by kernel_rfl)
noncomputable def k6:CFn:=gk (cfn Tryz.prog gl Tryz.f6)
theorem koe:cfn Tryz.prog gl Tryz.f6=some k6:=jaw (by kernel_rfl)
noncomputable def k7:CFn:=gk (cfn Tryz.prog gl Tryz.f7)
theorem kod:cfn Tryz.prog gl Tryz.f7=some k7:=jaw (by kernel_rfl)
noncomputable def k8:CFn:=gk (cfn Tryz.prog gl Tryz.f8)
theorem koc:cfn Tryz.prog gl Tryz.f8=some k8:=jaw (by kernel_rfl)
noncomputable def k9:CFn:=gk (cfn Tryz.prog gl Tryz.f9)
theorem kob:cfn Tryz.prog gl Tryz.f9=some k9:=jaw (by kernel_rfl)
noncomputable def k10:CFn:=gk (cfn Tryz.prog gl Tryz.f10)
theorem kmc:cfn Tryz.prog gl Tryz.f10=some k10:=jaw (by kernel_rfl)
noncomputable def k11:CFn:=gk (cfn Tryz.prog gl Tryz.f11)
theorem kmb:cfn Tryz.prog gl Tryz.f11=some k11:=jaw (by kernel_rfl)
noncomputable def k12:CFn:=gk (cfn Tryz.prog gl Tryz.f12)
theorem kl9:cfn Tryz.prog gl Tryz.f12=some k12:=jaw (by kernel_rfl)
noncomputable def k13:CFn:=gk (cfn Tryz.prog gl Tryz.f13)
theorem kl8:cfn Tryz.prog gl Tryz.f13=some k13:=jaw (by kernel_rfl)
noncomputable def k14:CFn:=gk (cfn Tryz.prog gl Tryz.f14)
theorem kl7:cfn Tryz.prog gl Tryz.f14=some k14:=jaw (by kernel_rfl)
noncomputable def k15:CFn:=gk (cfn Tryz.prog gl Tryz.f15)
theorem kl6:cfn Tryz.prog gl Tryz.f15=some k15:=jaw (by kernel_rfl)
noncomputable def k16:CFn:=gk (cfn Tryz.prog gl Tryz.f16)
theorem kl5:cfn Tryz.prog gl Tryz.f16=some k16:=jaw (by kernel_rfl)
noncomputable def k17:CFn:=gk (cfn Tryz.prog gl Tryz.f17)
theorem kl4:cfn Tryz.prog gl Tryz.f17=some k17:=jaw (by kernel_rfl)
noncomputable def k18:CFn:=gk (cfn Tryz.prog gl Tryz.f18)
theorem kl3:cfn Tryz.prog gl Tryz.f18=some k18:=jaw (by kernel_rfl)
noncomputable def k19:CFn:=gk (cfn Tryz.prog gl Tryz.f19)
theorem kl2:cfn Tryz.prog gl Tryz.f19=some k19:=jaw (by kernel_rfl)
noncomputable def k20:CFn:=gk (cfn Tryz.prog gl Tryz.f20)
theorem kl1:cfn Tryz.prog gl Tryz.f20=some k20:=jaw (by kernel_rfl)
noncomputable def k21:CFn:=gk (cfn Tryz.prog gl Tryz.f21)
theorem kl0:cfn Tryz.prog gl Tryz.f21=some k21:=jaw (by kernel_rfl)
noncomputable def k22:CFn:=gk (cfn Tryz.prog gl Tryz.f22)
theorem klz:cfn Tryz.prog gl Tryz.f22=some k22:=jaw (by kernel_rfl)
noncomputable def k23:CFn:=gk (cfn Tryz.prog gl Tryz.f23)
theorem kly:cfn Tryz.prog gl Tryz.f23=some k23:=jaw (by kernel_rfl)
noncomputable def k24:CFn:=gk (cfn Tryz.prog gl Tryz.f24)
theorem klx:cfn Tryz.prog gl Tryz.f24=some k24:=jaw (by kernel_rfl)
noncomputable def k25:CFn:=gk (cfn Tryz.prog gl Tryz.f25)
theorem klw:cfn Tryz.prog gl Tryz.f25=some k25:=jaw (by kernel_rfl)
noncomputable def k26:CFn:=gk (cfn Tryz.prog gl Tryz.f26)
theorem klv:cfn Tryz.prog gl Tryz.f26=some k26:=jaw (by kernel_rfl)
noncomputable def k27:CFn:=gk (cfn Tryz.prog gl Tryz.f27)
theorem klu:cfn Tryz.prog gl Tryz.f27=some k27:=jaw (by kernel_rfl)
noncomputable def k28:CFn:=gk (cfn Tryz.prog gl Tryz.f28)
theorem klt:cfn Tryz.prog gl Tryz.f28=some k28:=jaw (by kernel_rfl)
noncomputable def k29:CFn:=gk (cfn Tryz.prog gl Tryz.f29)
theorem kls:cfn Tryz.prog gl Tryz.f29=some k29:=jaw (by kernel_rfl)
noncomputable def k30:CFn:=gk (cfn Tryz.prog gl Tryz.f30)
theorem klr:cfn Tryz.prog gl Tryz.f30=some k30:=jaw (by kernel_rfl)
noncomputable def k31:CFn:=gk (cfn Tryz.prog gl Tryz.f31)
theorem klq:cfn Tryz.prog gl Tryz.f31=some k31:=jaw (by kernel_rfl)
noncomputable def k32:CFn:=gk (cfn Tryz.prog gl Tryz.f32)
theorem klp:cfn Tryz.prog gl Tryz.f32=some k32:=jaw (by kernel_rfl)
noncomputable def k33:CFn:=gk (cfn Tryz.prog gl Tryz.f33)
theorem klo:cfn Tryz.prog gl Tryz.f33=some k33:=jaw (by kernel_rfl)
noncomputable def k34:CFn:=gk (cfn Tryz.prog gl Tryz.f34)
theorem kln:cfn Tryz.prog gl Tryz.f34=some k34:=jaw (by kernel_rfl)
noncomputable def k35:CFn:=gk (cfn Tryz.prog gl Tryz.f35)
theorem klm:cfn Tryz.prog gl Tryz.f35=some k35:=jaw (by kernel_rfl)
noncomputable def k36:CFn:=gk (cfn Tryz.prog gl Tryz.f36)
theorem kll:cfn Tryz.prog gl Tryz.f36=some k36:=jaw (by kernel_rfl)
noncomputable def k37:CFn:=gk (cfn Tryz.prog gl Tryz.f37)
theorem klk:cfn Tryz.prog gl Tryz.f37=some k37:=jaw (by kernel_rfl)
noncomputable def k38:CFn:=gk (cfn Tryz.prog gl Tryz.f38)
theorem klj:cfn Tryz.prog gl Tryz.f38=some k38:=jaw (by kernel_rfl)
noncomputable def k39:CFn:=gk (cfn Tryz.prog gl Tryz.f39)
theorem kli:cfn Tryz.prog gl Tryz.f39=some k39:=jaw (by kernel_rfl)
noncomputable def k40:CFn:=gk (cfn Tryz.prog gl Tryz.f40)
theorem klh:cfn Tryz.prog gl Tryz.f40=some k40:=jaw (by kernel_rfl)
noncomputable def k41:CFn:=gk (cfn Tryz.prog gl Tryz.f41)
theorem klg:cfn Tryz.prog gl Tryz.f41=some k41:=jaw (by kernel_rfl)
noncomputable def k43:CFn:=gk (cfn Tryz.prog gl Tryz.f43)
theorem klf:cfn Tryz.prog gl Tryz.f43=some k43:=jaw (by kernel_rfl)
noncomputable def k44:CFn:=gk (cfn Tryz.prog gl Tryz.f44)
theorem kle:cfn Tryz.prog gl Tryz.f44=some k44:=jaw (by kernel_rfl)
noncomputable def k45:CFn:=gk (cfn Tryz.prog gl Tryz.f45)
theorem kld:cfn Tryz.prog gl Tryz.f45=some k45:=jaw (by kernel_rfl)
noncomputable def k46:CFn:=gk (cfn Tryz.prog gl Tryz.f46 its)
theorem klc:cfn Tryz.prog gl Tryz.f46 its=some k46:=jaw (by kernel_rfl)
noncomputable def k47:CFn:=gk (cfn Tryz.prog gl Tryz.f47)
theorem klb:cfn Tryz.prog gl Tryz.f47=some k47:=jaw (by kernel_rfl)
noncomputable def k49:CFn:=gk (cfn Tryz.prog gl Tryz.f49)
theorem kla:cfn Tryz.prog gl Tryz.f49=some k49:=jaw (by kernel_rfl)
noncomputable def k50:CFn:=gk (cfn Tryz.prog gl Tryz.f50)
theorem kk9:cfn Tryz.prog gl Tryz.f50=some k50:=jaw (by kernel_rfl)
noncomputable def k52:CFn:=gk (cfn Tryz.prog gl Tryz.f52)
theorem kk8:cfn Tryz.prog gl Tryz.f52=some k52:=jaw (by kernel_rfl)
noncomputable def k53:CFn:=gk (cfn Tryz.prog gl Tryz.f53)
theorem kk7:cfn Tryz.prog gl Tryz.f53=some k53:=jaw (by kernel_rfl)
noncomputable def k54:CFn:=gk (cfn Tryz.prog gl Tryz.f54)
theorem kk6:cfn Tryz.prog gl Tryz.f54=some k54:=jaw (by kernel_rfl)
noncomputable def k55:CFn:=gk (cfn Tryz.prog gl Tryz.f55)
theorem kk5:cfn Tryz.prog gl Tryz.f55=some k55:=jaw (by kernel_rfl)
noncomputable def k56:CFn:=gk (cfn Tryz.prog gl Tryz.f56)
theorem kk4:cfn Tryz.prog gl Tryz.f56=some k56:=jaw (by kernel_rfl)
noncomputable def k57:CFn:=gk (cfn Tryz.prog gl Tryz.f57)
theorem kk3:cfn Tryz.prog gl Tryz.f57=some k57:=jaw (by kernel_rfl)
noncomputable def k58:CFn:=gk (cfn Tryz.prog gl Tryz.f58)
theorem kk1:cfn Tryz.prog gl Tryz.f58=some k58:=jaw (by kernel_rfl)
noncomputable def k59:CFn:=gk (cfn Tryz.prog gl Tryz.f59 Go.Vm.X.itsLl)
theorem kk0:cfn Tryz.prog gl Tryz.f59 Go.Vm.X.itsLl=some k59:=jaw (by kernel_rfl)
noncomputable def k60:CFn:=gk (cfn Tryz.prog gl Tryz.f60)
theorem kkz:cfn Tryz.prog gl Tryz.f60=some k60:=jaw (by kernel_rfl)
noncomputable def k61:CFn:=gk (cfn Tryz.prog gl Tryz.f61)
theorem kky:cfn Tryz.prog gl Tryz.f61=some k61:=jaw (by kernel_rfl)
noncomputable def k62:CFn:=gk (cfn Tryz.prog gl Tryz.f62)
theorem kkx:cfn Tryz.prog gl Tryz.f62=some k62:=jaw (by kernel_rfl)
noncomputable def k63:CFn:=gk (cfn Tryz.prog gl Tryz.f63)
theorem kkw:cfn Tryz.prog gl Tryz.f63=some k63:=jaw (by kernel_rfl)
noncomputable def k64:CFn:=gk (cfn Tryz.prog gl Tryz.f64)
theorem kkv:cfn Tryz.prog gl Tryz.f64=some k64:=jaw (by kernel_rfl)
noncomputable def k68:CFn:=gk (cfn Tryz.prog gl Tryz.f68)
theorem kku:cfn Tryz.prog gl Tryz.f68=some k68:=jaw (by kernel_rfl)
noncomputable def k69:CFn:=gk (cfn Tryz.prog gl Tryz.f69)
theorem kkt:cfn Tryz.prog gl Tryz.f69=some k69:=jaw (by kernel_rfl)
noncomputable def k70:CFn:=gk (cfn Tryz.prog gl Tryz.f70)
theorem kks:cfn Tryz.prog gl Tryz.f70=some k70:=jaw (by kernel_rfl)
noncomputable def k71:CFn:=gk (cfn Tryz.prog gl Tryz.f71)
theorem kkr:cfn Tryz.prog gl Tryz.f71=some k71:=jaw (by kernel_rfl)
noncomputable def k72:CFn:=gk (cfn Tryz.prog gl Tryz.f72)
theorem kkq:cfn Tryz.prog gl Tryz.f72=some k72:=jaw (by kernel_rfl)
noncomputable def k73:CFn:=gk (cfn Tryz.prog gl Tryz.f73)
theorem kkp:cfn Tryz.prog gl Tryz.f73=some k73:=jaw (by kernel_rfl)
noncomputable def k78:CFn:=gk (cfn Tryz.prog gl Tryz.f78)
theorem kko:cfn Tryz.prog gl Tryz.f78=some k78:=jaw (by kernel_rfl)
noncomputable def k79:CFn:=gk (cfn Tryz.prog gl Tryz.f79)
theorem kkn:cfn Tryz.prog gl Tryz.f79=some k79:=jaw (by kernel_rfl)
noncomputable def k80:CFn:=gk (cfn Tryz.prog gl Tryz.f80)
theorem kkm:cfn Tryz.prog gl Tryz.f80=some k80:=jaw (by kernel_rfl)
noncomputable def k81:CFn:=gk (cfn Tryz.prog gl Tryz.f81)
theorem kkl:cfn Tryz.prog gl Tryz.f81=some k81:=jaw (by kernel_rfl)
noncomputable def k82:CFn:=gk (cfn Tryz.prog gl Tryz.f82)
theorem kkk:cfn Tryz.prog gl Tryz.f82=some k82:=jaw (by kernel_rfl)
noncomputable def k83:CFn:=gk (cfn Tryz.prog gl Tryz.f83)
theorem kkj:cfn Tryz.prog gl Tryz.f83=some k83:=jaw (by kernel_rfl)
noncomputable def k84:CFn:=gk (cfn Tryz.prog gl Tryz.f84)
theorem kki:cfn Tryz.prog gl Tryz.f84=some k84:=jaw (by kernel_rfl)
noncomputable def k87:CFn:=gk (cfn Tryz.prog gl Tryz.f87)
theorem kkh:cfn Tryz.prog gl Tryz.f87=some k87:=jaw (by kernel_rfl)
noncomputable def knl:CFn:=gk (cfn Tryz.prog gl Tryz.f102)
theorem kh5:cfn Tryz.prog gl Tryz.f102=some knl:=jaw (by kernel_rfl)
noncomputable def kmg:CFn:=gk (cfn Tryz.prog gl Tryz.f103)
theorem kh4:cfn Tryz.prog gl Tryz.f103=some kmg:=jaw (by kernel_rfl)
noncomputable def kmf:CFn:=gk (cfn Tryz.prog gl Tryz.f106)
theorem kh3:cfn Tryz.prog gl Tryz.f106=some kmf:=jaw (by kernel_rfl)
noncomputable def kme:CFn:=gk (cfn Tryz.prog gl Tryz.f107)
theorem kh2:cfn Tryz.prog gl Tryz.f107=some kme:=jaw (by kernel_rfl)
noncomputable def kmd:CFn:=gk (cfn Tryz.prog gl Tryz.f108)
theorem kh1:cfn Tryz.prog gl Tryz.f108=some kmd:=jaw (by kernel_rfl)
noncomputable def knk:CFn:=gk (cfn Tryz.prog gl Tryz.f109)
theorem kh0:cfn Tryz.prog gl Tryz.f109=some knk:=jaw (by kernel_rfl)
noncomputable def kma:CFn:=gk (cfn Tryz.prog gl Tryz.f120)
theorem khz:cfn Tryz.prog gl Tryz.f120=some kma:=jaw (by kernel_rfl)
noncomputable def knj:CFn:=gk (cfn Tryz.prog gl Tryz.f121)
theorem khy:cfn Tryz.prog gl Tryz.f121=some knj:=jaw (by kernel_rfl)
noncomputable def kni:CFn:=gk (cfn Tryz.prog gl Tryz.f122)
theorem khx:cfn Tryz.prog gl Tryz.f122=some kni:=jaw (by kernel_rfl)
noncomputable def knh:CFn:=gk (cfn Tryz.prog gl Tryz.f125)
theorem khw:cfn Tryz.prog gl Tryz.f125=some knh:=jaw (by kernel_rfl)
noncomputable def kng:CFn:=gk (cfn Tryz.prog gl Tryz.f126)
theorem khv:cfn Tryz.prog gl Tryz.f126=some kng:=jaw (by kernel_rfl)
end
end Vm
end Go.Proofs.YtofimkliemlojaaGreatDoor
namespace Go.Proofs.YtofimkliemlojaaGreatDoor
namespace Vm
open Go Go.Vm Go.Vm.W
noncomputable section
set_option maxRecDepth 100000
attribute [local irreducible] k3 k4 k5 k6 k7 k8 k9 k10 k11 k12 k13 k14 k15 k16 k17 k18 k19 k20 k21 k22 k23 k24 k25 k26 k27 k28 k29 k30 k31 k32 k33 k34 k35 k36 k37 k38 k39 k40 k41 k43 k44 k45 k46 k47 k49 k50 k52 k53 k54 k55 k56 k57 k58 k59 k60 k61 k62 k63 k64 k68 k69 k70 k71 k72 k73 k78 k79 k80 k81 k82 k83 k84 k87 knl kmg kmf kme kmd knk kma knj kni knh kng
def prog:Tr CFn:=(.n (.n (.n (.n (.n (.n (.n .e (some k63) .e) (some k31) .e) (some k15) (.n (.n .e (some k79) .e) (some k47) .e)) (some k7) (.n (.n (.n .e (some k71) .e) (some k39) (.n .e (some kmg) .e)) (some k23) (.n (.n .e (some k87) .e) (some k55) .e))) (some k3) (.n (.n (.n .e (some k35) .e) (some k19) (.n (.n .e (some k83) .e) none .e)) (some k11) (.n (.n .e (some k43) (.n .e (some kme) .e)) (some k27) (.n .e (some k59) .e)))) none (.n (.n (.n (.n .e (some k33) .e) (some k17) (.n (.n .e (some k81) .e) (some k49) .e)) (some k9) (.n (.n (.n .e (some k73) .e) (some k41) .e) (some k25) (.n .e (some k57) (.n .e (some knj) .e)))) (some k5) (.n (.n (.n (.n .e (some k69) .e) (some k37) .e) (some k21) (.n .e (some k53) .e)) (some k13) (.n (.n .e (some k45) (.n .e (some knk) .e)) (some k29) (.n .e (some k61) (.n .e (some knh) .e)))))) none (.n (.n (.n (.n (.n (.n .e (some k64) .e) (some k32) .e) (some k16) (.n (.n .e (some k80) .e) none .e)) (some k8) (.n (.n (.n .e (some k72) .e) (some k40) .e) (some k24) (.n .e (some k56) (.n .e (some kma) .e)))) (some k4) (.n (.n (.n (.n .e (some k68) .e) (some k36) .e) (some k20) (.n (.n .e (some k84) .e) (some k52) .e)) (some k12) (.n (.n .e (some k44) (.n .e (some kmd) .e)) (some k28) (.n .e (some k60) .e)))) none (.n (.n (.n (.n .e (some k34) .e) (some k18) (.n (.n .e (some k82) .e) (some k50) .e)) (some k10) (.n (.n .e none (.n .e (some kmf) .e)) (some k26) (.n .e (some k58) (.n .e (some kni) .e)))) (some k6) (.n (.n (.n (.n .e (some k70) .e) (some k38) (.n .e (some knl) .e)) (some k22) (.n .e (some k54) .e)) (some k14) (.n (.n (.n .e (some k78) .e) (some k46) .e) (some k30) (.n .e (some k62) (.n .e (some kng) .e)))))))
def kl:List (Nat×CFn):=[(3,k3),(4,k4),(5,k5),(6,k6),(7,k7),(8,k8),(9,k9),(10,k10),(11,k11),(12,k12),(13,k13),(14,k14),(15,k15),(16,k16),(17,k17),(18,k18),(19,k19),(20,k20),(21,k21),(22,k22),(23,k23),(24,k24),(25,k25),(26,k26),(27,k27),(28,k28),(29,k29),(30,k30),(31,k31),(32,k32),(33,k33),(34,k34),(35,k35),(36,k36),(37,k37),(38,k38),(39,k39),(40,k40),(41,k41),(43,k43),(44,k44),(45,k45),(46,k46),(47,k47),(49,k49),(50,k50),(52,k52),(53,k53),(54,k54),(55,k55),(56,k56),(57,k57),(58,k58),(59,k59),(60,k60),(61,k61),(62,k62),(63,k63),(64,k64),(68,k68),(69,k69),(70,k70),(71,k71),(72,k72),(73,k73),(78,k78),(79,k79),(80,k80),(81,k81),(82,k82),(83,k83),(84,k84),(87,k87),(102,knl),(103,kmg),(106,kmf),(107,kme),(108,kmd),(109,knk),(120,kma),(121,knj),(122,kni),(125,knh),(126,kng)]
theorem koa:koy Tryz.prog gl its kl:=⟨⟨Tryz.f3,Tryz.func3,.inl koh⟩,⟨Tryz.f4,Tryz.func4,.inl kog⟩,⟨Tryz.f5,Tryz.func5,.inl kof⟩,⟨Tryz.f6,Tryz.func6,.inl koe⟩,⟨Tryz.f7,Tryz.func7,.inl kod⟩,⟨Tryz.f8,Tryz.func8,.inl koc⟩,⟨Tryz.f9,Tryz.func9,.inl kob⟩,⟨Tryz.f10,Tryz.func10,.inl kmc⟩,⟨Tryz.f11,Tryz.func11,.inl kmb⟩,⟨Tryz.f12,Tryz.func12,.inl kl9⟩,⟨Tryz.f13,Tryz.func13,.inl kl8⟩,⟨Tryz.f14,Tryz.func14,.inl kl7⟩,⟨Tryz.f15,Tryz.func15,.inl kl6⟩,⟨Tryz.f16,Tryz.func16,.inl kl5⟩,⟨Tryz.f17,Tryz.func17,.inl kl4⟩,⟨Tryz.f18,Tryz.func18,.inl kl3⟩,⟨Tryz.f19,Tryz.func19,.inl kl2⟩,⟨Tryz.f20,Tryz.func20,.inl kl1⟩,⟨Tryz.f21,Tryz.func21,.inl kl0⟩,⟨Tryz.f22,Tryz.func22,.inl klz⟩,⟨Tryz.f23,Tryz.func23,.inl kly⟩,⟨Tryz.f24,Tryz.func24,.inl klx⟩,⟨Tryz.f25,Tryz.func25,.inl klw⟩,⟨Tryz.f26,Tryz.func26,.inl klv⟩,⟨Tryz.f27,Tryz.func27,.inl klu⟩,⟨Tryz.f28,Tryz.func28,.inl klt⟩,⟨Tryz.f29,Tryz.func29,.inl kls⟩,⟨Tryz.f30,Tryz.func30,.inl klr⟩,⟨Tryz.f31,Tryz.func31,.inl klq⟩,⟨Tryz.f32,Tryz.func32,.inl klp⟩,⟨Tryz.f33,Tryz.func33,.inl klo⟩,⟨Tryz.f34,Tryz.func34,.inl kln⟩,⟨Tryz.f35,Tryz.func35,.inl klm⟩,⟨Tryz.f36,Tryz.func36,.inl kll⟩,⟨Tryz.f37,Tryz.func37,.inl klk⟩,⟨Tryz.f38,Tryz.func38,.inl klj⟩,⟨Tryz.f39,Tryz.func39,.inl kli⟩,⟨Tryz.f40,Tryz.func40,.inl klh⟩,⟨Tryz.f41,Tryz.func41,.inl klg⟩,⟨Tryz.f43,Tryz.func43,.inl klf⟩,⟨Tryz.f44,Tryz.func44,.inl kle⟩,⟨Tryz.f45,Tryz.func45,.inl kld⟩,⟨Tryz.f46,Tryz.func46,.inr (.inl klc)⟩,⟨Tryz.f47,Tryz.func47,.inl klb⟩,⟨Tryz.f49,Tryz.func49,.inl kla⟩,⟨Tryz.f50,Tryz.func50,.inl kk9⟩,⟨Tryz.f52,Tryz.func52,.inl kk8⟩,⟨Tryz.f53,Tryz.func53,.inl kk7⟩,⟨Tryz.f54,Tryz.func54,.inl kk6⟩,⟨Tryz.f55,Tryz.func55,.inl kk5⟩,⟨Tryz.f56,Tryz.func56,.inl kk4⟩,⟨Tryz.f57,Tryz.func57,.inl kk3⟩,⟨Tryz.f58,Tryz.func58,.inl kk1⟩,⟨Tryz.f59,Tryz.func59,.inr (.inr ⟨_,Go.Vm.X.itsLl_ok,kk0⟩)⟩,⟨Tryz.f60,Tryz.func60,.inl kkz⟩,⟨Tryz.f61,Tryz.func61,.inl kky⟩,⟨Tryz.f62,Tryz.func62,.inl kkx⟩,⟨Tryz.f63,Tryz.func63,.inl kkw⟩,⟨Tryz.f64,Tryz.func64,.inl kkv⟩,⟨Tryz.f68,Tryz.func68,.inl kku⟩,⟨Tryz.f69,Tryz.func69,.inl kkt⟩,⟨Tryz.f70,Tryz.func70,.inl kks⟩,⟨Tryz.f71,Tryz.func71,.inl kkr⟩,⟨Tryz.f72,Tryz.func72,.inl kkq⟩,⟨Tryz.f73,Tryz.func73,.inl kkp⟩,⟨Tryz.f78,Tryz.func78,.inl kko⟩,⟨Tryz.f79,Tryz.func79,.inl kkn⟩,⟨Tryz.f80,Tryz.func80,.inl kkm⟩,⟨Tryz.f81,Tryz.func81,.inl kkl⟩,⟨Tryz.f82,Tryz.func82,.inl kkk⟩,⟨Tryz.f83,Tryz.func83,.inl kkj⟩,⟨Tryz.f84,Tryz.func84,.inl kki⟩,⟨Tryz.f87,Tryz.func87,.inl kkh⟩,⟨Tryz.f102,Tryz.func102,.inl kh5⟩,⟨Tryz.f103,Tryz.func103,.inl kh4⟩,⟨Tryz.f106,Tryz.func106,.inl kh3⟩,⟨Tryz.f107,Tryz.func107,.inl kh2⟩,⟨Tryz.f108,Tryz.func108,.inl kh1⟩,⟨Tryz.f109,Tryz.func109,.inl kh0⟩,⟨Tryz.f120,Tryz.func120,.inl khz⟩,⟨Tryz.f121,Tryz.func121,.inl khy⟩,⟨Tryz.f122,Tryz.func122,.inl khx⟩,⟨Tryz.f125,Tryz.func125,.inl khw⟩,⟨Tryz.f126,Tryz.func126,.inl khv⟩,trivial⟩
theorem khb:prog=ofK kl:=by kernel_rfl
theorem ka2:j8e Tryz.prog gl prog:=khb▸j2m kmh koa
end
end Vm
end Go.Proofs.YtofimkliemlojaaGreatDoor
