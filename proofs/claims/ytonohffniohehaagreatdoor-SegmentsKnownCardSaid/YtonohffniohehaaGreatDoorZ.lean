/-
  The annotations of the program's functions. (Printed by a program.)
-/
import Derived.Test.YtonohffniohehaaGreatDoorVmP
set_option linter.unusedSimpArgs false
set_option linter.unusedVariables false
set_option linter.unusedSectionVars false
set_option linter.unnecessarySimpa false
namespace Go.Vm.X
open Go Go.Vm Go.Vm.W Go.Proofs.YtonohffniohehaaGreatDoor.Vm
noncomputable section
set_option maxRecDepth 100000
abbrev tqa:Ty:=.int .i64
abbrev tqb:Ty:=.int .u8
abbrev tqc:Ty:=.prod tqa tqa
abbrev tqd:Ty:=.prod tqb tqa
abbrev tqe:Ty:=.prod tqa tqb
abbrev rqf:Rep:=.d tqa
abbrev tqg:Ty:=.prod tqd tqc
abbrev tqh:Ty:=.prod tqb tqg
abbrev tqi:Ty:=.prod tqb tqb
abbrev tqj:Ty:=.prod tqa tqi
abbrev tqk:Ty:=.prod tqa tqe
abbrev tql:Ty:=.prod tqd tqa
abbrev tqm:Ty:=.prod tqe tqa
abbrev rqn:Rep:=.d tqc
abbrev rqo:Rep:=.d .bool
abbrev tqp:Ty:=.arr 3 tqc
abbrev rqq:Rep:=.d .str
abbrev rqr:Rep:=.d tqb
abbrev rqs:Rep:=.d tqd
abbrev rqt:Rep:=.d tqk
abbrev tqu:Ty:=.sl tqj
abbrev tqv:Ty:=.prod tqa tqu
abbrev tqw:Ty:=.prod tqa tqv
abbrev rqx:Rep:=.d tqh
abbrev rqy:Rep:=.d tqe
abbrev rqz:Rep:=.own tqe
abbrev rq0:Rep:=.own tqh
abbrev tq1:Ty:=.int .u64
abbrev rq2:Rep:=.d tqw
abbrev tq3:Ty:=.prod tqe tqg
abbrev rq4:Rep:=.own tqj
abbrev rq5:Rep:=.p rqf .nl
abbrev rq6:Rep:=.p rqf rq5
abbrev rq7:Rep:=.p rqf rq4
abbrev rq8:Rep:=.p rqf rq7
def jsp:FuncId×Fx:=(10,jci k10 [] ⟨[],[]⟩)
def je8:FuncId×Fx:=(31,jci k31 [] ⟨[],[]⟩)
def jf1:FuncId×Fx:=(133,jci kde [] ⟨[],[]⟩)
def jbx:FuncId×Fx:=(136,jci kdb [] ⟨[],[]⟩)
def jcu:FuncId×Fx:=(159,jci kc9 [] ⟨[],[]⟩)
def jix:FuncId×Fx:=(135,jci kdc [] ⟨[],[]⟩)
def jcd:FuncId×Fx:=(137,jci kda [] ⟨[],[]⟩)
def jc9:FuncId×Fx:=(134,jci kdd [] ⟨[],[]⟩)
def jcv:FuncId×Fx:=(91,jci k91 [] ⟨[],[]⟩)
def jpu:FuncId×Fx:=(67,jci k67 [] ⟨[],[]⟩)
def je7:FuncId×Fx:=(130,jci kdf [] ⟨[],[]⟩)
def jok:FuncId×Fx:=(92,jci k92 [] ⟨[],[]⟩)
def jkw:FuncId×Fx:=(84,jci k84 [] ⟨[],[]⟩)
def jsq:FuncId×Fx:=(93,jci k93 [(18,.j [(.b 4)] [((.b 4),rqs)]),(22,.j [(.b 4)] [((.b 4),rqs)]),(26,.j [(.b 4)] [((.b 4),rqs)])] ⟨[],[]⟩)
def jmd:FuncId×Fx:=(94,jci k94 [(18,.l [((.t 21),rqf),((.b 4),(.d tqp))])] ⟨[(2,tqp),(5,tqp)],[]⟩)
def jpv:FuncId×Fx:=(70,jci k70 [] ⟨[],[]⟩)
def jpw:FuncId×Fx:=(71,jci k71 [] ⟨[(8,tqp)],[]⟩)
def jb1:FuncId×Fx:=(58,jci k58 [] ⟨[],[]⟩)
def jol:FuncId×Fx:=(59,jci k59 [(18,.f ksr [((.b 1),(.p rqz .u))])] ⟨[(17,tqe)],[]⟩)
def jjj:FuncId×Fx:=(86,jci k86 [] ⟨[],[]⟩)
def jlh:FuncId×Fx:=(72,jci k72 [] ⟨[],[]⟩)
def jl5:FuncId×Fx:=(38,jci k38 [] ⟨[],[]⟩)
def jka:FuncId×Fx:=(33,jci k33 [(10,.l [((.t 20),rqf),((.o 2),(.mp tql tqm))])] ⟨[(17,(.prod tql tqm))],[]⟩)
def jiy:FuncId×Fx:=(55,jci k55 [] ⟨[],[]⟩)
def jli:FuncId×Fx:=(11,jci k11 [] ⟨[],[]⟩)
def jh1:FuncId×Fx:=(32,jci k32 [(16,.l [((.t 6),rqz),((.t 7),rqf)])] ⟨[(40,tqe)],[]⟩)
def jlk:FuncId×Fx:=(12,jci k12 [] ⟨[],[]⟩)
def ji0:FuncId×Fx:=(65,jci k65 [] ⟨[],[]⟩)
def jkd:FuncId×Fx:=(66,jci k66 [] ⟨[],[]⟩)
def jcp:FuncId×Fx:=(90,jci k90 [(6,.l [((.t 8),rqf)])] ⟨[],[]⟩)
def jb9:FuncId×Fx:=(64,jci k64 [] ⟨[],[]⟩)
def jll:FuncId×Fx:=(69,jci k69 [] ⟨[],[]⟩)
def jlm:FuncId×Fx:=(37,jci k37 [(24,.l [((.t 21),rqf)]),(49,.l [((.t 8),rqf)])] ⟨[],[]⟩)
def jgv:FuncId×Fx:=(68,jci k68 [] ⟨[],[]⟩)
def jiz:FuncId×Fx:=(28,jci k28 [(20,.l [((.t 23),rqf),((.o 2),(.aw tqj))])] ⟨[(16,tqj)],[]⟩)
def jpx:FuncId×Fx:=(16,jci k16 [(18,.l [((.t 5),rq0),((.t 27),rqf)]),(39,.l [((.t 5),(.d (.sl tqh))),((.t 10),rq0)]),(55,.l [((.t 12),rqf),((.t 65),rqf),((.b 4),(.d (.prod tqb (.prod tqb (.prod tqa tqc)))))])] ⟨[(23,tqh),(51,tqh),(96,tqh)],[]⟩)
def jdk:FuncId×Fx:=(42,jci k42 [] ⟨[],[]⟩)
def jjk:FuncId×Fx:=(18,jci k18 [(22,.l [((.t 10),rq4),((.t 28),rqf),((.b 1),rq6),((.o 3),(.mp tqe tqb))]),(46,.l [((.t 10),rq4),((.t 46),rqf),((.b 1),rq6),((.o 3),(.mp tqe tqb))])] ⟨[(68,tqj),(25,(.prod tqe tqb))],[]⟩)
def jd2:FuncId×Fx:=(46,jci k46 [] ⟨[],[]⟩)
def jp2:FuncId×Fx:=(22,jci k22 [] ⟨[],[]⟩)
def jp4:FuncId×Fx:=(60,jci k60 [(8,.l [((.t 3),(.own tqk)),((.t 4),rqf)]),(20,.l [((.t 3),(.own tqk)),((.t 5),rqf)]),(32,.l [((.t 3),(.own tqk)),((.t 6),rqr)])] ⟨[(28,tqk)],[]⟩)
def jxc:FuncId×Fx:=(114,jci kn9 [] ⟨[],[]⟩)
def jon:FuncId×Fx:=(88,jci k88 [] ⟨[],[]⟩)
def jt6:FuncId×Fx:=(158,jci kny [] ⟨[],[]⟩)
def jl9:FuncId×Fx:=(131,jci kn5 [] ⟨[],[25]⟩)
def jp5:FuncId×Fx:=(24,jci k24 [] ⟨[],[]⟩)
def jl8:FuncId×Fx:=(87,jci k87 [] ⟨[(2,tqp),(5,(.arr 4 tqc))],[]⟩)
def jsj:FuncId×Fx:=(132,jci kn4 [(6,.l [((.t 3),rqf),((.b 1),rqt)]),(26,.l [((.t 7),rqr),((.b 1),rqt)])] ⟨[(9,tqp)],[19,24,29,34,44,48]⟩)
def jsk:FuncId×Fx:=(61,jci k61 [(12,.l [((.t 9),rqr),((.b 5),rqs)])] ⟨[(5,tqp)],[16,21,62]⟩)
def jkc:FuncId×Fx:=(89,jci k89 [(10,.l [((.t 7),rqf),((.b 3),(.d tqp))])] ⟨[(6,tqp)],[]⟩)
def jkb:FuncId×Fx:=(77,jci k77 [] ⟨[],[]⟩)
def jp3:FuncId×Fx:=(47,jci k47 [(8,.l [((.t 3),rqz),((.t 4),rqf)]),(20,.l [((.t 3),rqz),((.t 5),rqf)])] ⟨[(31,tqe)],[]⟩)
def jsi:FuncId×Fx:=(62,jci k62 [(12,.l [((.t 8),(.own tqc)),((.t 9),rqf)]),(24,.l [((.t 8),(.own tqc)),((.t 10),rqf)])] ⟨[(55,tqc),(6,tqp),(7,tqp)],[]⟩)
def jp1:FuncId×Fx:=(23,jci k23 [(14,.l [((.t 3),rqf)]),(41,.l [((.t 5),rqf),((.t 6),rqf),((.t 7),rqf)]),(56,.l [((.t 8),rqf),((.t 9),rqf)])] ⟨[],[]⟩)
def jsg:FuncId×Fx:=(36,jci k36 [(10,.l [((.t 7),rqf),((.b 3),rq8)])] ⟨[(46,tqj)],[]⟩)
def jsh:FuncId×Fx:=(48,jci k48 [(18,.l [((.t 9),rqf)])] ⟨[],[]⟩)
def jom:FuncId×Fx:=(19,jci k19 [(14,.l [((.t 5),rqf)])] ⟨[],[]⟩)
def jp0:FuncId×Fx:=(29,jci k29 [] ⟨[],[]⟩)
def jpz:FuncId×Fx:=(63,jci k63 [] ⟨[],[]⟩)
def jt5:FuncId×Fx:=(34,jci k34 [(12,.l [((.t 5),(.own tq3)),((.t 6),rqf)])] ⟨[(57,tq3)],[]⟩)
def jxb:FuncId×Fx:=(35,jci k35 [(6,.l [((.t 9),rqf),((.b 1),rqy)])] ⟨[],[]⟩)
def jpy:FuncId×Fx:=(14,jci k14 [(18,.l [((.t 6),rqz),((.t 8),rqf)])] ⟨[(54,tqe)],[]⟩)
def jse:FuncId×Fx:=(43,jci k43 [(6,.l [((.t 5),rqf)])] ⟨[],[]⟩)
def jxa:FuncId×Fx:=(17,jci k17 [(12,.l [((.t 3),rq0),((.t 7),rqr)]),(24,.l [((.t 3),rq0),((.t 8),rqf)]),(41,.l [((.t 3),rq0),((.t 11),rqf),((.b 5),(.d (.prod tqb (.prod tqb (.prod tqa tqc)))))])] ⟨[(83,tqh),(98,tqh)],[]⟩)
def jl7:FuncId×Fx:=(21,jci k21 [(8,.l [((.t 8),rqf),((.b 1),rq6),((.o 3),(.aw tqb))]),(30,.l [((.t 11),rqf),((.b 1),rq6),((.o 3),(.aw tqb))])] ⟨[],[]⟩)
def jh6:FuncId×Fx:=(155,jci kn0 [] ⟨[],[]⟩)
def jh7:FuncId×Fx:=(166,jci knw [] ⟨[],[]⟩)
def joj:FuncId×Fx:=(57,jci k57 [] ⟨[],[]⟩)
def jmc:FuncId×Fx:=(85,jci k85 [] ⟨[],[]⟩)
def jh8:FuncId×Fx:=(128,jci kn7 [(21,.j [] [((.t 6),(.d tq1))])] ⟨[(5,(.arr 24 tqb))],[]⟩)
def jln:FuncId×Fx:=(154,jci kn1 [] ⟨[],[]⟩)
def jf3:FuncId×Fx:=(156,jci knz [(4,.l [((.t 1),(.d tq1)),((.t 4),rqf),((.bm 1),(.d (.arr 24 tqb)))]),(36,.j [(.bm 1)] [((.t 4),rqf),((.t 12),(.d (.int .u32))),((.bm 1),(.d (.arr 24 tqb)))])] ⟨[],[]⟩)
def jsm:FuncId×Fx:=(56,jci k56 [] ⟨[],[]⟩)
def jl6:FuncId×Fx:=(27,jci k27 [] ⟨[],[]⟩)
def jma:FuncId×Fx:=(50,jci k50 [] ⟨[],[]⟩)
def jsl:FuncId×Fx:=(49,jci k49 [] ⟨[],[]⟩)
def jsf:FuncId×Fx:=(25,jci k25 [] ⟨[],[]⟩)
def jlj:FuncId×Fx:=(26,jci k26 [] ⟨[],[]⟩)
def jmb:FuncId×Fx:=(30,jci k30 [] ⟨[],[]⟩)
def jp6:FuncId×Fx:=(13,jci k13 [(12,.j [] [((.t 68),rqo)]),(22,.l [((.t 8),rqf)]),(40,.j [] [((.t 9),(.ownc tqh))]),(42,.j [] [((.t 10),(.ownc tqa))]),(47,.l [((.t 11),rqf)])] ⟨[(92,tqh),(114,tqj),(127,tqh)],[]⟩)
def jsn:FuncId×Fx:=(20,jci k20 [] ⟨[],[6,10,14,18,26]⟩)
def jso:FuncId×Fx:=(15,jci k15 [(10,.l [((.t 5),rqf),((.o 3),(.aw tqb))])] ⟨[],[]⟩)
def jhg:FuncId×Fx:=(3,jci k3 [(8,.j [] [((.t 26),rqo)]),(18,.j [] [((.t 73),rqo)]),(28,.l [((.t 10),rqf)])] ⟨[],[]⟩)
def jjl:FuncId×Fx:=(4,jci k4 [(10,.j [] [((.t 38),rqo)]),(22,.l [((.t 7),rqf),((.t 8),rqf)]),(33,.j [] [((.t 99),rqo)])] ⟨[],[]⟩)
def jf2:FuncId×Fx:=(5,jci k5 [(18,.l [((.t 6),rq0),((.t 7),rqf)])] ⟨[(31,tqh)],[]⟩)
def jgx:FuncId×Fx:=(6,jci k6 [(4,.j [] [((.t 34),rqo)]),(16,.j [] [((.t 53),rqo)])] ⟨[(70,tqh)],[]⟩)
def jh5:FuncId×Fx:=(7,jci k7 [(14,.j [] [((.t 43),rqo)]),(15,.j [] [((.t 5),rqq)]),(21,.j [] [((.t 57),rqo)])] ⟨[],[]⟩)
def jgw:FuncId×Fx:=(8,jci k8 [(22,.l [((.t 10),rqf)])] ⟨[],[]⟩)
def jhh:FuncId×Fx:=(9,jci k9 [(8,.l [((.t 1),rqf),((.t 2),rqf)]),(25,.l [((.t 1),rqf),((.t 4),(.own (.prod tqb (.prod tqb (.prod (.int .i8) tqi))))),((.t 5),rqf),((.b 0),(.p rqr (.p rqr (.own tqb))))]),(53,.j [] [((.t 6),(.ownc .str))]),(58,.l [((.t 7),rqf)])] ⟨[],[]⟩)
end
end Go.Vm.X
