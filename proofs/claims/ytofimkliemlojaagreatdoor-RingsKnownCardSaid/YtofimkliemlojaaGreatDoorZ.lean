/-
  The annotations of the program's functions. (Printed by a program.)
-/
import Derived.Test.YtofimkliemlojaaGreatDoorVmP
set_option linter.unusedSimpArgs false
set_option linter.unusedVariables false
set_option linter.unusedSectionVars false
set_option linter.unnecessarySimpa false
namespace Go.Vm.X
open Go Go.Vm Go.Vm.W Go.Proofs.YtofimkliemlojaaGreatDoor.Vm
noncomputable section
set_option maxRecDepth 100000
abbrev tqa:Ty:=.int .i64
abbrev tqb:Ty:=.int .u8
abbrev rqc:Rep:=.d tqa
abbrev tqd:Ty:=.sl tqa
abbrev tqe:Ty:=.sl tqb
abbrev tqf:Ty:=.prod tqd tqe
abbrev tqg:Ty:=.arr 32 tqa
abbrev tqh:Ty:=.prod tqf tqd
abbrev rqi:Rep:=.own tqa
abbrev rqj:Rep:=.d tqf
abbrev rqk:Rep:=.d .bool
abbrev rql:Rep:=.d tqd
abbrev rqm:Rep:=.own tqb
abbrev tqn:Ty:=.arr 8 tqa
abbrev tqo:Ty:=.prod .bool .unit
abbrev tqp:Ty:=.slx tqa
abbrev tqq:Ty:=.prod tqe tqe
abbrev tqr:Ty:=.prod tqb .unit
abbrev rqs:Rep:=.ownx tqa
abbrev rqt:Rep:=.mp tqn .bool
abbrev tqu:Ty:=.prod tqq tqr
abbrev rqv:Rep:=.d tqg
abbrev rqw:Rep:=.d tqh
abbrev rqx:Rep:=.own tqp
abbrev tqy:Ty:=.int .u64
abbrev rqz:Rep:=.p rqt .u
abbrev rq0:Rep:=.p rqx .u
abbrev rq1:Rep:=.ownx tqb
abbrev rq2:Rep:=.p rqs rq1
abbrev rq3:Rep:=.d tqe
abbrev rq4:Rep:=.own tqd
abbrev rq5:Rep:=.p rqi rqm
def jfr:FuncId×Fx:=(49,jdr k49 [] ⟨[(5,tqa)],[]⟩)
def jc7:FuncId×Fx:=(61,jdr k61 [] ⟨[(5,tqb)],[]⟩)
def jo6:FuncId×Fx:=(40,jdr k40 [(21,.l [((.t 24),rqc)]),(44,.l [((.t 38),rqc)])] ⟨[],[]⟩)
def jtz:FuncId×Fx:=(53,jdr k53 [(8,.l [((.t 4),rqc),((.b 2),rq5)])] ⟨[],[]⟩)
def jhk:FuncId×Fx:=(107,jdr kme [] ⟨[],[]⟩)
def jhl:FuncId×Fx:=(120,jdr kma [] ⟨[],[]⟩)
def jo7:FuncId×Fx:=(41,jdr k41 [] ⟨[],[]⟩)
def jmj:FuncId×Fx:=(64,jdr k64 [] ⟨[],[]⟩)
def jhm:FuncId×Fx:=(87,jdr k87 [(21,.j [] [((.t 6),(.d tqy))])] ⟨[(5,(.arr 24 tqb))],[]⟩)
def jlz:FuncId×Fx:=(106,jdr kmf [] ⟨[],[]⟩)
def jft:FuncId×Fx:=(108,jdr kmd [(4,.l [((.t 1),(.d tqy)),((.t 4),rqc),((.bm 1),(.d (.arr 24 tqb)))]),(36,.j [(.bm 1)] [((.t 4),rqc),((.t 12),(.d (.int .u32))),((.bm 1),(.d (.arr 24 tqb)))])] ⟨[],[]⟩)
def jqm:FuncId×Fx:=(12,jdr k12 [(16,.l [((.t 3),(.own .str)),((.t 12),rqc)])] ⟨[],[]⟩)
def jfh:FuncId×Fx:=(27,jdr k27 [(14,.l [((.t 5),rqc)])] ⟨[],[]⟩)
def jqs:FuncId×Fx:=(22,jdr k22 [(29,.l [((.t 3),rqc),((.t 34),rqc)])] ⟨[],[]⟩)
def jx5:FuncId×Fx:=(36,jdr k36 [(8,.l [((.t 12),rqc),((.b 3),(.p rql (.p rq3 rqi)))])] ⟨[],[]⟩)
def jif:FuncId×Fx:=(70,jdr k70 [] ⟨[],[]⟩)
def jj6:FuncId×Fx:=(71,jdr k71 [] ⟨[],[]⟩)
def jg0:FuncId×Fx:=(37,jdr k37 [] ⟨[],[]⟩)
def jto:FuncId×Fx:=(45,jdr k45 [(8,.l [((.t 7),rqc),((.b 1),rqv)]),(25,.l [((.t 15),rqc),((.b 1),rqv)])] ⟨[(2,tqg),(3,tqg)],[]⟩)
def jgb:FuncId×Fx:=(72,jdr k72 [] ⟨[],[]⟩)
def jga:FuncId×Fx:=(46,jdr k46 [(6,.l [((.t 13),rqc),((.b 2),(.d tqo))]),(23,.l [((.t 26),rqc),((.b 2),(.d tqo))]),(45,.f kok [((.b 2),(.d tqo))])] ⟨[],[]⟩)
def jgz:FuncId×Fx:=(73,jdr k73 [] ⟨[],[]⟩)
def jie:FuncId×Fx:=(56,jdr k56 [] ⟨[],[]⟩)
def jhh:FuncId×Fx:=(47,jdr k47 [(6,.l [((.t 11),rqc)])] ⟨[],[]⟩)
def jgy:FuncId×Fx:=(79,jdr k79 [] ⟨[],[]⟩)
def ji4:FuncId×Fx:=(103,jdr kmg [(6,.l [((.t 8),rqc)])] ⟨[],[]⟩)
def jo8:FuncId×Fx:=(54,jdr k54 [(24,.l [((.t 20),rqc)])] ⟨[],[]⟩)
def jqn:FuncId×Fx:=(23,jdr k23 [] ⟨[(7,tqg)],[]⟩)
def jhi:FuncId×Fx:=(50,jdr k50 [(10,.l [((.t 6),(.ownc tqa)),((.b 3),(.d (.arr 32 .bool)))]),(21,.l [((.t 6),(.ownc tqa)),((.t 23),rqc),((.b 3),(.d (.arr 32 .bool)))]),(38,.l [((.t 9),rqk),((.t 32),rqc)])] ⟨[(5,tqg),(7,(.arr 32 .bool))],[]⟩)
def jqo:FuncId×Fx:=(26,jdr k26 [] ⟨[],[]⟩)
def jcw:FuncId×Fx:=(14,jdr k14 [] ⟨[],[]⟩)
def jqp:FuncId×Fx:=(29,jdr k29 [(20,.l [((.t 38),rqc),((.o 6),(.aw tqb))])] ⟨[(8,tqg)],[]⟩)
def jmh:FuncId×Fx:=(44,jdr k44 [(18,.l [((.t 31),rqc),((.bm 4),rqz),((.bm 2),rq0)])] ⟨[(57,tqp),(8,tqg),(11,tqn)],[]⟩)
def jtn:FuncId×Fx:=(19,jdr k19 [] ⟨[(9,(.prod tqn .bool))],[]⟩)
def jly:FuncId×Fx:=(18,jdr k18 [] ⟨[],[]⟩)
def jqr:FuncId×Fx:=(5,jdr k5 [] ⟨[],[]⟩)
def jqq:FuncId×Fx:=(28,jdr k28 [] ⟨[],[]⟩)
def ji5:FuncId×Fx:=(30,jdr k30 [(18,.l [((.t 5),rqc),((.t 16),rqc)])] ⟨[],[]⟩)
def jid:FuncId×Fx:=(62,jdr k62 [(8,.l [((.t 3),rqc),((.t 11),rqc)]),(33,.l [((.t 6),rqi),((.t 27),rqc)])] ⟨[],[]⟩)
def jfg:FuncId×Fx:=(63,jdr k63 [(8,.l [((.t 3),rqc),((.t 11),rqc)]),(33,.l [((.t 6),rqm),((.t 27),rqc)])] ⟨[],[]⟩)
def jj7:FuncId×Fx:=(38,jdr k38 [] ⟨[],[]⟩)
def jbn:FuncId×Fx:=(16,jdr k16 [] ⟨[],[]⟩)
def jgc:FuncId×Fx:=(39,jdr k39 [] ⟨[],[]⟩)
def jts:FuncId×Fx:=(11,jdr k11 [] ⟨[],[]⟩)
def jtq:FuncId×Fx:=(33,jdr k33 [] ⟨[],[]⟩)
def jtr:FuncId×Fx:=(34,jdr k34 [(8,.l [((.t 18),rqc),((.o 3),(.aw tqb))])] ⟨[],[]⟩)
def jic:FuncId×Fx:=(15,jdr k15 [(5,.j [] []),(13,.j [] []),(22,.l [((.t 8),rqc),((.o 0),(.aw tqa))])] ⟨[],[]⟩)
def jih:FuncId×Fx:=(43,jdr k43 [] ⟨[],[]⟩)
def jgi:FuncId×Fx:=(69,jdr k69 [] ⟨[],[]⟩)
def jff:FuncId×Fx:=(17,jdr k17 [(5,.j [] []),(13,.j [] []),(22,.l [((.t 8),rqc),((.o 0),(.aw tqb))])] ⟨[],[]⟩)
def jtp:FuncId×Fx:=(4,jdr k4 [] ⟨[],[]⟩)
def jqv:FuncId×Fx:=(13,jdr k13 [] ⟨[],[]⟩)
def jtx:FuncId×Fx:=(20,jdr k20 [(16,.l [((.t 6),rqc),((.t 7),rqc),((.b 6),rq5)]),(55,.j [(.b 7)] [((.t 6),rqc),((.o 7),(.aw tqa))])] ⟨[],[]⟩)
def jty:FuncId×Fx:=(21,jdr k21 [(8,.l [((.t 5),rqi),((.t 7),rqc)]),(23,.l [((.t 5),rqi),((.t 6),rqi),((.t 8),rqc)])] ⟨[],[]⟩)
def jtw:FuncId×Fx:=(32,jdr k32 [(8,.l [((.t 3),rqi),((.t 4),rqc)])] ⟨[],[]⟩)
def jtv:FuncId×Fx:=(55,jdr k55 [(12,.l [((.t 11),rqi),((.t 12),rqc)]),(36,.j [] [((.t 16),rqc)]),(42,.j [] [((.t 16),rqc)]),(71,.l [((.t 17),rqc)])] ⟨[],[]⟩)
def jqw:FuncId×Fx:=(24,jdr k24 [(10,.l [((.t 7),rqc)]),(33,.l [((.t 9),rqc),((.o 2),(.aw tqa))]),(48,.l [((.t 10),rqc)]),(62,.j [] [((.t 11),rqc),((.t 12),rqc)])] ⟨[],[]⟩)
def jtu:FuncId×Fx:=(35,jdr k35 [(14,.l [((.t 5),rqc)])] ⟨[],[]⟩)
def jpa:FuncId×Fx:=(25,jdr k25 [(18,.l [((.t 4),rq4),((.t 5),rqc)]),(30,.l [((.t 4),rq4),((.t 6),rqc)]),(45,.l [((.t 7),rqi),((.t 8),rqc)])] ⟨[(13,tqd)],[]⟩)
def ji6:FuncId×Fx:=(6,jdr k6 [] ⟨[],[]⟩)
def ji9:FuncId×Fx:=(7,jdr k7 [(16,.l [((.t 5),rqc),((.t 6),rql),((.t 7),rqc),((.b 3),rqj)])] ⟨[],[]⟩)
def ji7:FuncId×Fx:=(9,jdr k9 [(28,.l [((.t 12),rqc)]),(43,.l [((.t 14),rqc),((.o 6),(.aw tqa))]),(60,.l [((.t 15),rqk),((.t 16),rqc)]),(72,.l [((.t 15),rqk),((.t 17),rqc)])] ⟨[],[]⟩)
def jj9:FuncId×Fx:=(10,jdr k10 [(32,.l [((.t 12),rqc)]),(46,.j [] [((.t 13),(.d tqb))]),(77,.l [((.t 14),rqc)])] ⟨[],[]⟩)
def jx6:FuncId×Fx:=(80,jdr k80 [] ⟨[],[]⟩)
def jig:FuncId×Fx:=(81,jdr k81 [] ⟨[],[]⟩)
def jj8:FuncId×Fx:=(82,jdr k82 [] ⟨[],[]⟩)
def jqt:FuncId×Fx:=(58,jdr k58 [(8,.l [((.t 8),rqc),((.b 1),rqv)])] ⟨[(2,tqg),(3,tqg)],[]⟩)
def jo9:FuncId×Fx:=(57,jdr k57 [(23,.l [((.t 29),rqc),((.b 1),(.p .nl (.p .nl .nl)))])] ⟨[],[]⟩)
def jmi:FuncId×Fx:=(83,jdr k83 [] ⟨[],[]⟩)
def jtt:FuncId×Fx:=(60,jdr k60 [] ⟨[],[]⟩)
def jgd:FuncId×Fx:=(59,jdr k59 [(10,.l [((.t 14),rqc),((.b 2),(.d tqo))]),(27,.l [((.t 27),rqc),((.b 2),(.d tqo))]),(49,.f kh8 [((.b 2),(.d tqo))])] ⟨[],[]⟩)
def jhj:FuncId×Fx:=(84,jdr k84 [] ⟨[],[]⟩)
def jqu:FuncId×Fx:=(31,jdr k31 [(26,.l [((.t 27),rqc)])] ⟨[(7,tqg)],[]⟩)
def jfs:FuncId×Fx:=(8,jdr k8 [(9,.j [(.b 1),(.b 2),(.b 3)] [((.t 6),rql),((.b 3),rqj)]),(40,.l [((.t 13),rqc),((.t 14),rqc)])] ⟨[],[]⟩)
def ji8:FuncId×Fx:=(3,jdr k3 [(8,.l [((.t 2),rqc)]),(35,.l [((.t 7),rqc),((.t 8),rqc)]),(52,.l [((.t 7),rqc),((.t 10),rqm),((.t 11),rqc),((.b 1),(.p rqm (.p rqm (.d tqb))))])] ⟨[],[]⟩)
end
end Go.Vm.X
