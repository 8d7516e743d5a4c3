/- Parts of the proof. -/
import Derived.Test.YtccefhabickfiaaGreatDoorRows
import Derived.Test.YtccefhabickfiaaGreatDoorIt
namespace Go.Proofs.YtccefhabickfiaaGreatDoor
open Go.Proofs.Tryz
namespace Vm
open Go Go.Vm Go.Vm.W
noncomputable section
set_option maxRecDepth 100000
def gl:List Nat:=[0,1,2,3,4,5,6,7,8]
def nx0:Nat:=11
def ex (mx:Int):List (Nat×List AV):=[(0,[(.int .i64 mx)]),(4,[(.ifc 273 (.ptr 9 0))]),(3,[(.ifc 273 (.ptr 10 0))])]
def es:List (Nat×List AV):=[(5,[(.int .u8 0),(.int .u8 1),(.int .u8 28),(.int .u8 2),(.int .u8 29),(.int .u8 14),(.int .u8 24),(.int .u8 3),(.int .u8 30),(.int .u8 22),(.int .u8 20),(.int .u8 15),(.int .u8 25),(.int .u8 17),(.int .u8 4),(.int .u8 8),(.int .u8 31),(.int .u8 27),(.int .u8 13),(.int .u8 23),(.int .u8 21),(.int .u8 19),(.int .u8 16),(.int .u8 7),(.int .u8 26),(.int .u8 12),(.int .u8 18),(.int .u8 6),(.int .u8 11),(.int .u8 5),(.int .u8 10),(.int .u8 9)]),(6,[(.int .u8 0),(.int .u8 1),(.int .u8 56),(.int .u8 2),(.int .u8 57),(.int .u8 49),(.int .u8 28),(.int .u8 3),(.int .u8 61),(.int .u8 58),(.int .u8 42),(.int .u8 50),(.int .u8 38),(.int .u8 29),(.int .u8 17),(.int .u8 4),(.int .u8 62),(.int .u8 47),(.int .u8 59),(.int .u8 36),(.int .u8 45),(.int .u8 43),(.int .u8 51),(.int .u8 22),(.int .u8 53),(.int .u8 39),(.int .u8 33),(.int .u8 30),(.int .u8 24),(.int .u8 18),(.int .u8 12),(.int .u8 5),(.int .u8 63),(.int .u8 55),(.int .u8 48),(.int .u8 27),(.int .u8 60),(.int .u8 41),(.int .u8 37),(.int .u8 16),(.int .u8 46),(.int .u8 35),(.int .u8 44),(.int .u8 21),(.int .u8 52),(.int .u8 32),(.int .u8 23),(.int .u8 11),(.int .u8 54),(.int .u8 26),(.int .u8 40),(.int .u8 15),(.int .u8 34),(.int .u8 20),(.int .u8 31),(.int .u8 10),(.int .u8 25),(.int .u8 14),(.int .u8 19),(.int .u8 9),(.int .u8 13),(.int .u8 8),(.int .u8 7),(.int .u8 6)]),(2,[(.int .u64 1),(.int .u64 10),(.int .u64 100),(.int .u64 1000),(.int .u64 10000),(.int .u64 100000),(.int .u64 1000000),(.int .u64 10000000),(.int .u64 100000000),(.int .u64 1000000000),(.int .u64 10000000000),(.int .u64 100000000000),(.int .u64 1000000000000),(.int .u64 10000000000000),(.int .u64 100000000000000),(.int .u64 1000000000000000),(.int .u64 10000000000000000),(.int .u64 100000000000000000),(.int .u64 1000000000000000000),(.int .u64 10000000000000000000)]),(8,[(.int .u8 128),(.int .u8 191),(.int .u8 160),(.int .u8 191),(.int .u8 128),(.int .u8 159),(.int .u8 144),(.int .u8 191),(.int .u8 128),(.int .u8 143),(.int .u8 0),(.int .u8 0),(.int .u8 0),(.int .u8 0),(.int .u8 0),(.int .u8 0),(.int .u8 0),(.int .u8 0),(.int .u8 0),(.int .u8 0),(.int .u8 0),(.int .u8 0),(.int .u8 0),(.int .u8 0),(.int .u8 0),(.int .u8 0),(.int .u8 0),(.int .u8 0),(.int .u8 0),(.int .u8 0),(.int .u8 0),(.int .u8 0)]),(1,[(.int .i64 0),(.int .i64 (-1)),(.int .u8 2),(.int .i64 0),(.int .i64 0),(.int .i64 (-1)),(.int .u8 2),(.int .i64 0),(.int .i64 0),(.int .u8 1),(.int .i64 0),(.int .i64 0),(.int .u8 3),(.int .i64 0),(.int .i64 0),(.int .i64 2),(.int .i64 0),(.int .i64 1),(.int .i64 0),(.int .u8 1),(.int .i64 1),(.int .i64 1),(.int .i64 0),(.int .u8 3),(.int .i64 0),(.int .i64 0),(.int .u8 0),(.int .i64 0),(.int .i64 0),(.int .u8 2),(.int .i64 2),(.int .i64 2),(.int .i64 2),(.int .i64 0),(.int .i64 0),(.int .i64 1),(.int .u8 2),(.int .i64 1),(.int .i64 0),(.int .i64 1),(.int .u8 0),(.int .i64 0),(.int .i64 0),(.int .u8 3),(.int .i64 0),(.int .i64 0),(.int .u8 1),(.int .i64 2),(.int .i64 2),(.int .i64 0),(.int .i64 2),(.int .i64 (-1)),(.int .i64 0),(.int .u8 1),(.int .i64 0),(.int .i64 (-1)),(.int .i64 0),(.int .u8 1),(.int .i64 0),(.int .i64 0),(.int .u8 2),(.int .i64 0),(.int .i64 0),(.int .u8 0),(.int .i64 0),(.int .i64 0),(.int .i64 0),(.int .i64 2)])]
def H0 (mx:Int):Tr Blk:=(.n (.n (.n .e (some (.cells (.n .e (some (.ifc 273 (.ptr 10 0))) .e) 1)) .e) (some (.cells (.n (.n (.n (.n (.n (.n (.n .e (some (.int .u8 0)) .e) (some (.int .i64 2)) .e) (some (.int .i64 2)) (.n .e (some (.int .i64 2)) .e)) (some (.int .i64 0)) (.n (.n .e (some (.int .i64 1)) .e) (some (.int .u8 3)) (.n .e (some (.int .i64 (-1))) .e))) (some (.int .i64 0)) (.n (.n (.n (.n .e (some (.int .i64 2)) .e) (some (.int .i64 1)) .e) (some (.int .u8 1)) (.n .e (some (.int .i64 (-1))) .e)) (some (.int .i64 0)) (.n (.n .e (some (.int .u8 3)) .e) (some (.int .i64 0)) (.n .e (some (.int .i64 0)) .e)))) (some (.int .i64 (-1))) (.n (.n (.n (.n (.n .e (some (.int .i64 0)) .e) (some (.int .i64 0)) .e) (some (.int .i64 1)) (.n .e (some (.int .i64 0)) .e)) (some (.int .u8 1)) (.n (.n .e (some (.int .i64 0)) .e) (some (.int .i64 0)) (.n .e (some (.int .u8 1)) .e))) (some (.int .i64 (-1))) (.n (.n (.n .e (some (.int .i64 1)) .e) (some (.int .i64 1)) (.n .e (some (.int .u8 1)) .e)) (some (.int .i64 0)) (.n (.n .e (some (.int .i64 0)) .e) (some (.int .u8 2)) (.n .e (some (.int .i64 0)) .e))))) (some (.int .i64 0)) (.n (.n (.n (.n (.n (.n .e (some (.int .i64 0)) .e) (some (.int .i64 2)) .e) (some (.int .i64 0)) (.n .e (some (.int .i64 2)) .e)) (some (.int .i64 0)) (.n (.n .e (some (.int .u8 0)) .e) (some (.int .i64 0)) (.n .e (some (.int .i64 0)) .e))) (some (.int .i64 0)) (.n (.n (.n .e (some (.int .u8 2)) .e) (some (.int .i64 1)) (.n .e (some (.int .i64 0)) .e)) (some (.int .u8 3)) (.n (.n .e (some (.int .i64 0)) .e) (some (.int .i64 0)) (.n .e (some (.int .u8 2)) .e)))) (some (.int .u8 2)) (.n (.n (.n (.n (.n .e (some (.int .i64 0)) .e) (some (.int .i64 0)) .e) (some (.int .i64 0)) (.n .e (some (.int .i64 2)) .e)) (some (.int .i64 0)) (.n (.n .e (some (.int .i64 0)) .e) (some (.int .u8 0)) (.n .e (some (.int .i64 0)) .e))) (some (.int .u8 2)) (.n (.n (.n .e (some (.int .i64 0)) .e) (some (.int .i64 0)) (.n .e (some (.int .i64 0)) .e)) (some (.int .i64 0)) (.n (.n .e (some (.int .u8 1)) .e) (some (.int .i64 2)) (.n .e (some (.int .i64 0)) .e)))))) 68)) (.n .e (some (.cells (.n (.n (.n (.n (.n (.n .e (some (.int .u8 9)) .e) (some (.int .u8 8)) .e) (some (.int .u8 3)) (.n .e (some (.int .u8 7)) .e)) (some (.int .u8 2)) (.n (.n .e (some (.int .u8 23)) .e) (some (.int .u8 15)) (.n .e (some (.int .u8 6)) .e))) (some (.int .u8 1)) (.n (.n (.n .e (some (.int .u8 27)) .e) (some (.int .u8 22)) (.n .e (some (.int .u8 12)) .e)) (some (.int .u8 14)) (.n (.n .e (some (.int .u8 19)) .e) (some (.int .u8 17)) (.n .e (some (.int .u8 5)) .e)))) (some (.int .u8 0)) (.n (.n (.n (.n .e (some (.int .u8 31)) .e) (some (.int .u8 30)) (.n .e (some (.int .u8 26)) .e)) (some (.int .u8 29)) (.n (.n .e (some (.int .u8 21)) .e) (some (.int .u8 25)) (.n .e (some (.int .u8 11)) .e))) (some (.int .u8 28)) (.n (.n (.n .e (some (.int .u8 13)) .e) (some (.int .u8 20)) (.n .e (some (.int .u8 18)) .e)) (some (.int .u8 24)) (.n (.n .e (some (.int .u8 16)) .e) (some (.int .u8 4)) (.n .e (some (.int .u8 10)) .e))))) 32)) .e)) (some (.cells (.n .e (some (.int .i64 mx)) .e) 1)) (.n (.n (.n .e (some (.cells (.n (.n (.n (.n (.n (.n .e (some (.int .u8 0)) .e) (some (.int .u8 0)) .e) (some (.int .u8 191)) (.n .e (some (.int .u8 0)) .e)) (some (.int .u8 191)) (.n (.n .e (some (.int .u8 0)) .e) (some (.int .u8 0)) (.n .e (some (.int .u8 0)) .e))) (some (.int .u8 191)) (.n (.n (.n .e (some (.int .u8 0)) .e) (some (.int .u8 143)) (.n .e (some (.int .u8 0)) .e)) (some (.int .u8 159)) (.n (.n .e (some (.int .u8 0)) .e) (some (.int .u8 0)) (.n .e (some (.int .u8 0)) .e)))) (some (.int .u8 128)) (.n (.n (.n (.n .e (some (.int .u8 0)) .e) (some (.int .u8 128)) (.n .e (some (.int .u8 0)) .e)) (some (.int .u8 128)) (.n (.n .e (some (.int .u8 0)) .e) (some (.int .u8 0)) (.n .e (some (.int .u8 0)) .e))) (some (.int .u8 160)) (.n (.n (.n .e (some (.int .u8 0)) .e) (some (.int .u8 0)) (.n .e (some (.int .u8 0)) .e)) (some (.int .u8 144)) (.n (.n .e (some (.int .u8 0)) .e) (some (.int .u8 0)) (.n .e (some (.int .u8 0)) .e))))) 32)) .e) (some (.cells (.n .e (some (.ifc 273 (.ptr 9 0))) .e) 1)) .e) (some (.cells (.n (.n (.n (.n (.n .e (some (.int .u64 1000000000000000)) .e) (some (.int .u64 10000000)) .e) (some (.int .u64 1000)) (.n (.n .e (some (.int .u64 10000000000000000000)) .e) (some (.int .u64 100000000000)) .e)) (some (.int .u64 10)) (.n (.n (.n .e (some (.int .u64 100000000000000000)) .e) (some (.int .u64 1000000000)) .e) (some (.int .u64 100000)) (.n .e (some (.int .u64 10000000000000)) .e))) (some (.int .u64 1)) (.n (.n (.n (.n .e (some (.int .u64 10000000000000000)) .e) (some (.int .u64 100000000)) .e) (some (.int .u64 10000)) (.n .e (some (.int .u64 1000000000000)) .e)) (some (.int .u64 100)) (.n (.n (.n .e (some (.int .u64 1000000000000000000)) .e) (some (.int .u64 10000000000)) .e) (some (.int .u64 1000000)) (.n .e (some (.int .u64 100000000000000)) .e)))) 20)) (.n .e (some (.cells (.n (.n (.n (.n (.n (.n (.n .e (some (.int .u8 6)) .e) (some (.int .u8 5)) .e) (some (.int .u8 4)) (.n .e (some (.int .u8 11)) .e)) (some (.int .u8 3)) (.n (.n .e (some (.int .u8 16)) .e) (some (.int .u8 22)) (.n .e (some (.int .u8 10)) .e))) (some (.int .u8 2)) (.n (.n (.n .e (some (.int .u8 27)) .e) (some (.int .u8 36)) (.n .e (some (.int .u8 15)) .e)) (some (.int .u8 50)) (.n (.n .e (some (.int .u8 21)) .e) (some (.int .u8 30)) (.n .e (some (.int .u8 9)) .e)))) (some (.int .u8 1)) (.n (.n (.n (.n .e (some (.int .u8 55)) .e) (some (.int .u8 47)) (.n .e (some (.int .u8 26)) .e)) (some (.int .u8 58)) (.n (.n .e (some (.int .u8 35)) .e) (some (.int .u8 39)) (.n .e (some (.int .u8 14)) .e))) (some (.int .u8 49)) (.n (.n (.n .e (some (.int .u8 41)) .e) (some (.int .u8 43)) (.n .e (some (.int .u8 20)) .e)) (some (.int .u8 29)) (.n (.n .e (some (.int .u8 32)) .e) (some (.int .u8 18)) (.n .e (some (.int .u8 8)) .e))))) (some (.int .u8 0)) (.n (.n (.n (.n (.n .e (some (.int .u8 63)) .e) (some (.int .u8 62)) (.n .e (some (.int .u8 54)) .e)) (some (.int .u8 61)) (.n (.n .e (some (.int .u8 46)) .e) (some (.int .u8 53)) (.n .e (some (.int .u8 25)) .e))) (some (.int .u8 57)) (.n (.n (.n .e (some (.int .u8 60)) .e) (some (.int .u8 45)) (.n .e (some (.int .u8 34)) .e)) (some (.int .u8 38)) (.n (.n .e (some (.int .u8 52)) .e) (some (.int .u8 24)) (.n .e (some (.int .u8 13)) .e)))) (some (.int .u8 56)) (.n (.n (.n (.n .e (some (.int .u8 48)) .e) (some (.int .u8 59)) (.n .e (some (.int .u8 40)) .e)) (some (.int .u8 42)) (.n (.n .e (some (.int .u8 44)) .e) (some (.int .u8 33)) (.n .e (some (.int .u8 19)) .e))) (some (.int .u8 28)) (.n (.n (.n .e (some (.int .u8 37)) .e) (some (.int .u8 51)) (.n .e (some (.int .u8 31)) .e)) (some (.int .u8 17)) (.n (.n .e (some (.int .u8 23)) .e) (some (.int .u8 12)) (.n .e (some (.int .u8 7)) .e)))))) 64)) .e)))
abbrev its:nV:=Go.Vm.X.itsL
theorem jzu:wL Tryz.prog gl its:=Go.Vm.X.itsL_ok
def Rm:List (String×DataW Unit):=(Rows.filesBackRow.laid.zipIdx.filter λx=>[0,1,2,3,6].contains x.2).map (·.1)
theorem jym:Ds Tryz.prog Rm=some es:=by kernel_rfl
theorem j5c (mx:Int):put [.int .i64 mx] 0 .e=.n .e (some (.int .i64 mx)) .e:=by
 unfold put qZ qZ;simp only[Dv,Tr.setK_eq];rfl
theorem Xc (mx:Int):oG (ex mx++es)=H0 mx:=by
 show Tr.set (oG ((ex mx).tail++es)) 0 (.cells (put [.int .i64 mx] 0 .e) 1)=H0 mx;rw[j5c];kernel_rfl
def BB (mx:Int):Base:=⟨H0 mx,nx0⟩
theorem jt4 (mx:Int):WF (BB mx).H0 (BB mx).nx0:=by
 show WF (H0 mx) nx0;rw[<-Xc];exact jgn (by kernel_rfl)
theorem mixed:Tryz.prog.follows .mixedOrders=true:=by kernel_rfl
end
end Vm
end Go.Proofs.YtccefhabickfiaaGreatDoor
namespace Go.Proofs.YtccefhabickfiaaGreatDoor
open Go.Proofs.Tryz
namespace Vm
open Go Go.Vm Go.Vm.W
noncomputable section
set_option maxRecDepth 100000
noncomputable abbrev cg (f:Func):Option CFn:=cfn Tryz.prog gl f
noncomputable def k8:=gk (cg f8)
noncomputable def k12:=gk (cg f12)
noncomputable def k13:=gk (cg f13)
noncomputable def k14:=gk (cg f14)
noncomputable def k15:=gk (cg f15)
noncomputable def k16:=gk (cg f16)
noncomputable def k18:=gk (cg f18)
noncomputable def k20:=gk (cg f20)
noncomputable def k21:=gk (cg f21)
noncomputable def k22:=gk (cg f22)
noncomputable def k24:=gk (cg f24)
noncomputable def k25:=gk (cg f25)
noncomputable def k26:=gk (cg f26)
noncomputable def k27:=gk (cg f27)
noncomputable def k28:=gk (cg f28)
noncomputable def k29:=gk (cg f29)
noncomputable def Eh:=gk (cfn Tryz.prog gl f32 its)
theorem jz3:cfn Tryz.prog gl f32 its=some Eh:=qR (by kernel_rfl)
noncomputable def xQ:=gk (cg f33)
noncomputable def k34:=gk (cg f34)
noncomputable def k35:=gk (cg f35)
noncomputable def k37:=gk (cg f37)
noncomputable def k38:=gk (cg f38)
noncomputable def k39:=gk (cg f39)
noncomputable def k41:=gk (cg f41)
noncomputable def k42:=gk (cg f42)
noncomputable def k43:=gk (cg f43)
noncomputable def k44:=gk (cg f44)
noncomputable def k46:=gk (cg f46)
noncomputable def k47:=gk (cg f47)
noncomputable def k48:=gk (cg f48)
noncomputable def k49:=gk (cg f49)
noncomputable def k50:=gk (cg f50)
noncomputable def k51:=gk (cg f51)
noncomputable def k52:=gk (cg f52)
noncomputable def k54:=gk (cg f54)
noncomputable def k55:=gk (cg f55)
noncomputable def k56:=gk (cg f56)
noncomputable def k57:=gk (cg f57)
noncomputable def k58:=gk (cg f58)
noncomputable def k60:=gk (cg f60)
noncomputable def k61:=gk (cg f61)
noncomputable def k63:=gk (cg f63)
noncomputable def k64:=gk (cg f64)
noncomputable def k65:=gk (cg f65)
noncomputable def k66:=gk (cg f66)
noncomputable def k67:=gk (cg f67)
noncomputable def k68:=gk (cg f68)
noncomputable def k69:=gk (cg f69)
noncomputable def k76:=gk (cg f76)
noncomputable def k77:=gk (cg f77)
noncomputable def k78:=gk (cg f78)
noncomputable def k79:=gk (cg f79)
noncomputable def k80:=gk (cg f80)
noncomputable def Ei:=gk (cfn Tryz.prog gl f81 its)
theorem jz5:cfn Tryz.prog gl f81 its=some Ei:=qR (by kernel_rfl)
noncomputable def k82:=gk (cg f82)
noncomputable def k85:=gk (cg f85)
noncomputable def k86:=gk (cg f86)
noncomputable def k87:=gk (cg f87)
noncomputable def k88:=gk (cg f88)
noncomputable def k89:=gk (cg f89)
noncomputable def k90:=gk (cg f90)
noncomputable def k91:=gk (cg f91)
noncomputable def k92:=gk (cg f92)
noncomputable def k93:=gk (cg f93)
noncomputable def k94:=gk (cg f94)
noncomputable def k97:=gk (cg f97)
noncomputable def k98:=gk (cg f98)
noncomputable def k99:=gk (cg f99)
noncomputable def jar:=gk (cg f100)
noncomputable def jas:=gk (cg f101)
noncomputable def jat:=gk (cg f102)
noncomputable def jau:=gk (cg f103)
noncomputable def jav:=gk (cg f111)
noncomputable def jaw:=gk (cg f112)
noncomputable def jax:=gk (cg f113)
noncomputable def jk3:=gk (cg f114)
noncomputable def jay:=gk (cg f115)
noncomputable def jk4:=gk (cg f126)
noncomputable def jaz:=gk (cg f127)
noncomputable def xI:=gk (cg f128)
noncomputable def ja0:=gk (cg f129)
noncomputable def ja1:=gk (cg f130)
noncomputable def ja2:=gk (cg f131)
noncomputable def ja3:=gk (cg f140)
noncomputable def ja4:=gk (cg f141)
noncomputable def ja5:=gk (cg f142)
noncomputable def jk5:=gk (cg f143)
noncomputable def ja6:=gk (cg f144)
noncomputable def ja7:=gk (cg f145)
noncomputable def ja8:=gk (cg f157)
noncomputable def ja9:=gk (cg f158)
noncomputable def jk6:=gk (cg f160)
noncomputable def xJ:=gk (cg f161)
noncomputable def xK:=gk (cg f167)
noncomputable def xL:=gk (cg f168)
noncomputable def xM:=gk (cg f169)
noncomputable def xN:=gk (cg f170)
noncomputable def xO:=gk (cg f171)
noncomputable def jba:=gk (cg f176)
noncomputable def jk7:=gk (cg f177)
noncomputable def jk8:=gk (cg f178)
noncomputable def jbb:=gk (cg f186)
noncomputable def xP:=gk (cg f188)
noncomputable def jk9:=gk (cg f190)
noncomputable def jla:=gk (cg f191)
end
end Vm
end Go.Proofs.YtccefhabickfiaaGreatDoor
namespace Go.Proofs.YtccefhabickfiaaGreatDoor
open Go.Proofs.Tryz
namespace Vm
open Go Go.Vm Go.Vm.W
noncomputable section
set_option maxRecDepth 100000
attribute [local irreducible] k8 k12 k13 k14 k15 k16 k18 k20 k21 k22 k24 k25 k26 k27 k28 k29 Eh xQ k34 k35 k37 k38 k39 k41 k42 k43 k44 k46 k47 k48 k49 k50 k51 k52 k54 k55 k56 k57 k58 k60 k61 k63 k64 k65 k66 k67 k68 k69 k76 k77 k78 k79 k80 Ei k82 k85 k86 k87 k88 k89 k90 k91 k92 k93 k94 k97 k98 k99 jar jas jat jau jav jaw jax jk3 jay jk4 jaz xI ja0 ja1 ja2 ja3 ja4 ja5 jk5 ja6 ja7 ja8 ja9 jk6 xJ xK xL xM xN xO jba jk7 jk8 jbb xP jk9 jla
def prog:Tr CFn:=(.n (.n (.n (.n (.n (.n (.n (.n .e (some jaz) .e) (some k63) (.n .e (some jla) .e)) none .e) (some k15) (.n (.n (.n .e (some jk5) .e) (some k79) .e) (some k47) (.n .e (some jav) .e))) none (.n (.n .e (some k39) (.n (.n .e (some xK) .e) (some jau) .e)) none (.n (.n .e (some k87) .e) (some k55) .e))) none (.n (.n (.n (.n (.n .e (some ja2) .e) (some k67) .e) (some k35) (.n .e (some k99) .e)) none (.n .e (some k51) (.n .e (some jay) .e))) none (.n (.n .e (some k43) (.n (.n .e (some xO) .e) none .e)) (some k27) (.n (.n .e (some k91) .e) none .e)))) none (.n (.n (.n (.n (.n (.n .e (some ja0) .e) (some k65) .e) (some xQ) (.n (.n .e (some xJ) .e) (some k97) .e)) none (.n (.n (.n .e (some ja7) .e) (some Ei) .e) (some k49) (.n (.n .e (some jk7) .e) (some jax) .e))) none (.n (.n .e (some k41) (.n (.n .e (some xM) .e) none .e)) (some k25) (.n (.n .e (some k89) .e) (some k57) .e))) none (.n (.n (.n (.n .e (some k69) .e) (some k37) (.n .e (some jas) .e)) (some k21) (.n (.n .e (some k85) .e) none .e)) (some k13) (.n (.n (.n (.n .e (some ja4) .e) (some k77) .e) none .e) (some k29) (.n (.n (.n .e (some ja8) .e) (some k93) .e) (some k61) .e))))) none (.n (.n (.n (.n (.n (.n (.n .e (some xI) .e) (some k64) .e) (some Eh) (.n (.n .e (some jk6) .e) none .e)) (some k16) (.n (.n (.n .e (some ja6) .e) (some k80) .e) (some k48) (.n (.n .e (some jba) .e) (some jaw) .e))) (some k8) (.n (.n .e none (.n (.n .e (some xL) .e) none .e)) (some k24) (.n (.n .e (some k88) .e) (some k56) .e))) none (.n (.n (.n (.n .e (some k68) .e) none (.n .e (some jar) .e)) (some k20) (.n .e (some k52) .e)) (some k12) (.n (.n (.n (.n .e (some ja3) .e) (some k76) .e) (some k44) .e) (some k28) (.n (.n .e (some k92) .e) (some k60) (.n (.n .e (some xP) .e) none .e))))) none (.n (.n (.n (.n (.n (.n .e (some ja1) .e) (some k66) .e) (some k34) (.n .e (some k98) .e)) (some k18) (.n (.n .e (some k82) .e) (some k50) (.n (.n .e (some jk8) .e) (some jk3) .e))) none (.n (.n .e (some k42) (.n (.n .e (some xN) .e) none .e)) (some k26) (.n (.n .e (some k90) .e) (some k58) (.n (.n .e (some jbb) .e) none .e)))) none (.n (.n (.n .e (some k38) (.n .e (some jat) .e)) (some k22) (.n (.n .e (some k86) .e) (some k54) .e)) (some k14) (.n (.n (.n (.n .e (some ja5) .e) (some k78) .e) (some k46) .e) none (.n (.n (.n .e (some ja9) .e) (some k94) .e) none (.n (.n .e (some jk9) .e) (some jk4) .e)))))))
noncomputable def fl:List (Nat×Func):=[(8,f8),(12,f12),(13,f13),(14,f14),(15,f15),(16,f16),(18,f18),(20,f20),(21,f21),(22,f22),(24,f24),(25,f25),(26,f26),(27,f27),(28,f28),(29,f29),(33,f33),(34,f34),(35,f35),(37,f37),(38,f38),(39,f39),(41,f41),(42,f42),(43,f43),(44,f44),(46,f46),(47,f47),(48,f48),(49,f49),(50,f50),(51,f51),(52,f52),(54,f54),(55,f55),(56,f56),(57,f57),(58,f58),(60,f60),(61,f61),(63,f63),(64,f64),(65,f65),(66,f66),(67,f67),(68,f68),(69,f69),(76,f76),(77,f77),(78,f78),(79,f79),(80,f80),(82,f82),(85,f85),(86,f86),(87,f87),(88,f88),(89,f89),(90,f90),(91,f91),(92,f92),(93,f93),(94,f94),(97,f97),(98,f98),(99,f99),(100,f100),(101,f101),(102,f102),(103,f103),(111,f111),(112,f112),(113,f113),(114,f114),(115,f115),(126,f126),(127,f127),(128,f128),(129,f129),(130,f130),(131,f131),(140,f140),(141,f141),(142,f142),(143,f143),(144,f144),(145,f145),(157,f157),(158,f158),(160,f160),(161,f161),(167,f167),(168,f168),(169,f169),(170,f170),(171,f171),(176,f176),(177,f177),(178,f178),(186,f186),(188,f188),(190,f190),(191,f191)]
noncomputable def kl:List (Nat×CFn):=klK Tryz.prog gl fl++[(32,Eh),(81,Ei)]
theorem jz6:Ht Tryz.prog gl its kl:=jfh (P:=Tryz.prog) (gl:=gl) (its:=its) (m:=[(32,Eh),(81,Ei)]) ⟨⟨f32,func32,.inr (.inl jz3)⟩,⟨f81,func81,.inr (.inl jz5)⟩,trivial⟩ (l:=fl) (by kernel_rfl) ⟨func8,func12,func13,func14,func15,func16,func18,func20,func21,func22,func24,func25,func26,func27,func28,func29,func33,func34,func35,func37,func38,func39,func41,func42,func43,func44,func46,func47,func48,func49,func50,func51,func52,func54,func55,func56,func57,func58,func60,func61,func63,func64,func65,func66,func67,func68,func69,func76,func77,func78,func79,func80,func82,func85,func86,func87,func88,func89,func90,func91,func92,func93,func94,func97,func98,func99,func100,func101,func102,func103,func111,func112,func113,func114,func115,func126,func127,func128,func129,func130,func131,func140,func141,func142,func143,func144,func145,func157,func158,func160,func161,func167,func168,func169,func170,func171,func176,func177,func178,func186,func188,func190,func191,trivial⟩
theorem j48:prog=Fe kl:=by kernel_rfl
theorem Fl:Ib Tryz.prog gl prog:=j48▸jcq jzu jz6
end
end Vm
end Go.Proofs.YtccefhabickfiaaGreatDoor
