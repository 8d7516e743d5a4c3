/-
  The annotations of the program's functions. (Printed by a program.)
-/
import Derived.Test.YtahplmacekfjgaaGreatDoorVmP
import Derived.Test.YtahplmacekfjgaaGreatDoorXG6
set_option linter.unusedSimpArgs false
set_option linter.unusedVariables false
set_option linter.unusedSectionVars false
set_option linter.unnecessarySimpa false
namespace Go.Vm.X
open Go Go.Vm Go.Vm.W Go.Proofs.YtahplmacekfjgaaGreatDoor.Vm
noncomputable section
set_option maxRecDepth 100000
abbrev tqa:Ty:=.int .i64
abbrev tqb:Ty:=.prod tqa tqa
abbrev tqc:Ty:=.arr 3 tqa
abbrev rqd:Rep:=.d tqa
abbrev tqe:Ty:=.int .i8
abbrev tqf:Ty:=.prod .bool tqe
abbrev tqg:Ty:=.prod tqb tqf
abbrev tqh:Ty:=.prod tqc tqc
abbrev tqi:Ty:=.prod tqc tqh
abbrev rqj:Rep:=.d tqb
abbrev rqk:Rep:=.d .bool
abbrev tql:Ty:=.int .u8
abbrev tqm:Ty:=.prod tqc tql
abbrev rqn:Rep:=.d tqc
abbrev tqo:Ty:=.sl tqb
abbrev tqp:Ty:=.sl tqg
abbrev tqq:Ty:=.prod tqo tqp
abbrev rqr:Rep:=.d tqi
abbrev rqs:Rep:=.d tqq
abbrev tqt:Ty:=.int .u64
abbrev tqu:Ty:=.prod tqa tqb
abbrev rqv:Rep:=.d tqg
def jk4:FuncId×Fx:=(61,je6 k61 [] ⟨[],[]⟩)
def jjb:FuncId×Fx:=(29,je6 k29 [] ⟨[],[]⟩)
def jqt:FuncId×Fx:=(34,je6 k34 [(8,.l [((.t 8),rqd)])] ⟨[],[]⟩)
def jgg:FuncId×Fx:=(31,je6 k31 [] ⟨[],[]⟩)
def jkj:FuncId×Fx:=(40,je6 k40 [] ⟨[],[]⟩)
def jib:FuncId×Fx:=(35,je6 k35 [] ⟨[],[]⟩)
def jic:FuncId×Fx:=(43,je6 k43 [] ⟨[],[]⟩)
def jb9:FuncId×Fx:=(65,je6 k65 [(8,.l [((.t 9),rqd),((.t 10),rqd)])] ⟨[],[]⟩)
def jki:FuncId×Fx:=(42,je6 k42 [] ⟨[],[]⟩)
def jh6:FuncId×Fx:=(97,je6 k97 [(6,.l [((.t 8),rqd)])] ⟨[],[]⟩)
def jge:FuncId×Fx:=(74,je6 k74 [] ⟨[],[]⟩)
def ji7:FuncId×Fx:=(49,je6 k49 [(8,.l [((.t 3),(.own tqa)),((.t 4),rqd)]),(20,.l [((.t 3),(.own tqa)),((.t 19),rqd)]),(36,.j [] [((.t 7),rqd),((.t 8),rqd)])] ⟨[],[]⟩)
def jqr:FuncId×Fx:=(16,je6 k16 [(14,.l [((.t 16),rqd)]),(37,.l [((.t 58),rqd)]),(68,.l [((.t 94),rqd)])] ⟨[],[]⟩)
def jk0:FuncId×Fx:=(66,je6 k66 [] ⟨[],[]⟩)
def jkh:FuncId×Fx:=(77,je6 k77 [] ⟨[],[]⟩)
def jm1:FuncId×Fx:=(76,je6 k76 [] ⟨[],[]⟩)
def ji5:FuncId×Fx:=(99,je6 k99 [] ⟨[],[]⟩)
def jm0:FuncId×Fx:=(75,je6 k75 [] ⟨[],[]⟩)
def jet:FuncId×Fx:=(98,je6 k98 [] ⟨[],[]⟩)
def jfz:FuncId×Fx:=(132,je6 kgv [(6,.l [((.t 8),rqd)])] ⟨[],[]⟩)
def jie:FuncId×Fx:=(51,je6 k51 [] ⟨[],[]⟩)
def jid:FuncId×Fx:=(50,je6 k50 [] ⟨[],[]⟩)
def jqq:FuncId×Fx:=(18,je6 k18 [] ⟨[],[]⟩)
def jr4:FuncId×Fx:=(67,je6 k67 [] ⟨[],[]⟩)
def ji9:FuncId×Fx:=(44,je6 k44 [] ⟨[],[]⟩)
def jja:FuncId×Fx:=(45,je6 k45 [] ⟨[],[]⟩)
def jqp:FuncId×Fx:=(12,je6 k12 [(24,.l [((.t 34),rqd),((.o 1),(.aw tqi)),((.o 2),(.aw .bool))]),(36,.l [((.t 39),rqd),((.o 1),(.aw tqi)),((.o 2),(.aw .bool))]),(65,.l [((.t 104),rqd)])] ⟨[(21,tqi)],[]⟩)
def ji8:FuncId×Fx:=(46,je6 k46 [(8,.l [((.t 8),rqd),((.b 2),(.d (.prod tqa (.prod tqa (.prod tqa tql)))))])] ⟨[],[]⟩)
def je8:FuncId×Fx:=(68,je6 k68 [(6,.l [((.t 8),rqd)])] ⟨[],[]⟩)
def jd6:FuncId×Fx:=(47,je6 k47 [] ⟨[],[]⟩)
def jqo:FuncId×Fx:=(13,je6 k13 [(18,.l [((.t 6),(.ownc tqm)),((.t 23),rqd)])] ⟨[(20,tqm),(34,tqm)],[]⟩)
def jh7:FuncId×Fx:=(86,je6 k86 [] ⟨[],[]⟩)
def jgf:FuncId×Fx:=(87,je6 k87 [] ⟨[],[]⟩)
def jh9:FuncId×Fx:=(88,je6 k88 [] ⟨[],[]⟩)
def jhj:FuncId×Fx:=(89,je6 k89 [] ⟨[],[]⟩)
def jh8:FuncId×Fx:=(90,je6 k90 [] ⟨[],[]⟩)
def jia:FuncId×Fx:=(91,je6 k91 [] ⟨[],[]⟩)
def jhl:FuncId×Fx:=(92,je6 k92 [] ⟨[],[]⟩)
def jhk:FuncId×Fx:=(93,je6 k93 [] ⟨[],[]⟩)
def jgx:FuncId×Fx:=(69,je6 k69 [] ⟨[],[]⟩)
def jfh:FuncId×Fx:=(85,je6 k85 [] ⟨[],[22]⟩)
def jmz:FuncId×Fx:=(71,je6 k71 [] ⟨[],[]⟩)
def ji6:FuncId×Fx:=(48,je6 k48 [(10,.l [((.t 28),rqd),((.b 6),rqj)]),(31,.l [((.t 51),rqd),((.o 3),(.aw tqb))]),(48,.l [((.t 67),rqd),((.o 4),(.aw tqg))])] ⟨[(22,tqg)],[]⟩)
def jgy:FuncId×Fx:=(70,je6 k70 [] ⟨[],[]⟩)
def jn9:FuncId×Fx:=(14,je6 k14 [] ⟨[],[]⟩)
def jr5:FuncId×Fx:=(15,je6 k15 [(18,.l [((.t 18),rqd),((.o 3),(.aw tqg))])] ⟨[],[]⟩)
def jqs:FuncId×Fx:=(10,je6 k10 [] ⟨[],[]⟩)
def jr7:FuncId×Fx:=(25,je6 k25 [(6,.l [((.t 5),rqd)])] ⟨[],[]⟩)
def jm2:FuncId×Fx:=(26,je6 k26 [] ⟨[],[]⟩)
def job:FuncId×Fx:=(9,je6 k9 [(44,.l [((.t 14),rqd),((.o 12),(.aw tqg))]),(63,.l [((.t 18),rqd),((.b 17),(.p (.own tqb) (.own tqg)))])] ⟨[(30,tqg),(159,tqg),(199,tqg)],[]⟩)
def jk1:FuncId×Fx:=(17,je6 k17 [] ⟨[],[]⟩)
def joc:FuncId×Fx:=(52,je6 k52 [] ⟨[],[]⟩)
def joa:FuncId×Fx:=(20,je6 k20 [(9,.j [(.b 4),(.b 5)] [((.b 4),(.d tqu)),((.b 5),(.d tqu))]),(17,.j [(.b 6)] [((.b 6),(.d tqu))])] ⟨[],[]⟩)
def jgz:FuncId×Fx:=(101,je6 kg0 [] ⟨[],[]⟩)
def jg0:FuncId×Fx:=(134,je6 kgu [] ⟨[],[]⟩)
def jmy:FuncId×Fx:=(21,je6 k21 [] ⟨[],[]⟩)
def jk3:FuncId×Fx:=(53,je6 k53 [] ⟨[],[]⟩)
def jg1:FuncId×Fx:=(78,je6 k78 [(21,.j [] [((.t 6),(.d tqt))])] ⟨[(5,(.arr 24 tql))],[]⟩)
def jkk:FuncId×Fx:=(100,je6 kg1 [] ⟨[],[]⟩)
def jfi:FuncId×Fx:=(102,je6 kgz [(4,.l [((.t 1),(.d tqt)),((.t 4),rqd),((.bm 1),(.d (.arr 24 tql)))]),(36,.j [(.bm 1)] [((.t 4),rqd),((.t 12),(.d (.int .u32))),((.bm 1),(.d (.arr 24 tql)))])] ⟨[],[]⟩)
def jr6:FuncId×Fx:=(19,je6 k19 [] ⟨[],[]⟩)
def jk2:FuncId×Fx:=(11,je6 k11 [(22,.l [((.t 3),rqd)]),(45,.l [((.t 5),rqd)]),(58,.j [] [((.t 89),rqk)]),(82,.l [((.t 8),rqd)]),(98,.j [] [((.t 10),rqd)]),(115,.l [((.t 11),(.own tqb)),((.t 12),rqd)]),(127,.l [((.t 11),(.own tqb)),((.t 13),rqd)]),(143,.j [] [((.t 15),rqd)]),(150,.j [] [((.t 191),rqk)]),(151,.j [(.b 3)] [((.t 11),(.own tqb))])] ⟨[],[]⟩)
def jif:FuncId×Fx:=(4,je6 k4 [(4,.j [] [((.t 36),rqk)]),(22,.j [] [((.t 72),rqk)]),(34,.l [((.t 16),rqk),((.t 17),rqd)]),(48,.j [] [((.t 16),rqk)]),(55,.l [((.t 18),rqd),((.t 19),rqd),((.t 20),rqd),((.t 21),rqd)]),(70,.j [] [((.t 16),rqk)]),(77,.j [(.b 10)] [((.b 10),(.d tqu))]),(94,.j [] [((.t 200),rqk)]),(95,.j [] []),(106,.j [] [((.t 228),rqk)])] ⟨[],[]⟩)
end
end Go.Vm.X
