/-
  The annotations of the program's functions. (Printed by a program.)
-/
import Derived.Test.YtahplmacekfjgaaGreatDoorVmP
import Derived.Test.YtahplmacekfjgaaGreatDoorXG6
set_option linter.unusedSimpArgs false
set_option linter.unusedVariables false
set_option linter.unusedSectionVars false
set_option linter.unnecessarySimpa false
namespace Go.Vm.X
open Go Go.Vm Go.Vm.W Go.Proofs.YtahplmacekfjgaaGreatDoor.Vm
noncomputable section
set_option maxRecDepth 100000
abbrev tqa:Ty:=.int .i64
abbrev tqb:Ty:=.prod tqa tqa
abbrev tqc:Ty:=.arr 3 tqa
abbrev rqd:Rep:=.d tqa
abbrev tqe:Ty:=.int .i8
abbrev tqf:Ty:=.prod .bool tqe
abbrev tqg:Ty:=.prod tqb tqf
abbrev rqh:Rep:=.d tqb
abbrev tqi:Ty:=.int .u8
abbrev tqj:Ty:=.prod tqc tqc
abbrev tqk:Ty:=.prod tqc tqj
abbrev tql:Ty:=.prod tqc tqi
abbrev rqm:Rep:=.d .str
abbrev tqn:Ty:=.int .u64
abbrev tqo:Ty:=.sl tqb
abbrev rqp:Rep:=.d .bool
abbrev rqq:Rep:=.own tqg
abbrev tqr:Ty:=.sl tqg
abbrev tqs:Ty:=.prod tqo tqr
abbrev rqt:Rep:=.d tqc
abbrev rqu:Rep:=.own tqb
abbrev rqv:Rep:=.d tqs
abbrev rqw:Rep:=.d tqg
abbrev rqx:Rep:=.p rqu rqq
def jk1:FuncId×Fx:=(61,je4 k61 [] ⟨[],[]⟩)
def jji:FuncId×Fx:=(29,je4 k29 [] ⟨[],[]⟩)
def jqm:FuncId×Fx:=(34,je4 k34 [(8,.l [((.t 8),rqd)])] ⟨[],[]⟩)
def jf9:FuncId×Fx:=(31,je4 k31 [] ⟨[],[]⟩)
def jkj:FuncId×Fx:=(40,je4 k40 [] ⟨[],[]⟩)
def jij:FuncId×Fx:=(35,je4 k35 [] ⟨[],[]⟩)
def jik:FuncId×Fx:=(43,je4 k43 [] ⟨[],[]⟩)
def jbz:FuncId×Fx:=(65,je4 k65 [(8,.l [((.t 9),rqd),((.t 10),rqd)])] ⟨[],[]⟩)
def jki:FuncId×Fx:=(42,je4 k42 [] ⟨[],[]⟩)
def jie:FuncId×Fx:=(97,je4 k97 [(6,.l [((.t 8),rqd)])] ⟨[],[]⟩)
def jf7:FuncId×Fx:=(74,je4 k74 [] ⟨[],[]⟩)
def jje:FuncId×Fx:=(49,je4 k49 [(8,.l [((.t 3),(.own tqa)),((.t 4),rqd)]),(20,.l [((.t 3),(.own tqa)),((.t 19),rqd)]),(36,.j [] [((.t 7),rqd),((.t 8),rqd)])] ⟨[],[]⟩)
def jqj:FuncId×Fx:=(16,je4 k16 [(14,.l [((.t 16),rqd)]),(37,.l [((.t 58),rqd)]),(68,.l [((.t 94),rqd)])] ⟨[],[]⟩)
def jkz:FuncId×Fx:=(66,je4 k66 [] ⟨[],[]⟩)
def jkh:FuncId×Fx:=(77,je4 k77 [] ⟨[],[]⟩)
def jil:FuncId×Fx:=(51,je4 k51 [] ⟨[],[]⟩)
def jrr:FuncId×Fx:=(67,je4 k67 [] ⟨[],[]⟩)
def jjg:FuncId×Fx:=(44,je4 k44 [] ⟨[],[]⟩)
def jjh:FuncId×Fx:=(45,je4 k45 [] ⟨[],[]⟩)
def jqh:FuncId×Fx:=(12,je4 k12 [(24,.l [((.t 34),rqd),((.o 1),(.aw tqk)),((.o 2),(.aw .bool))]),(36,.l [((.t 39),rqd),((.o 1),(.aw tqk)),((.o 2),(.aw .bool))]),(65,.l [((.t 104),rqd)])] ⟨[(21,tqk)],[]⟩)
def jjf:FuncId×Fx:=(46,je4 k46 [(8,.l [((.t 8),rqd),((.b 2),(.d (.prod tqa (.prod tqa (.prod tqa tqi)))))])] ⟨[],[]⟩)
def jeu:FuncId×Fx:=(68,je4 k68 [(6,.l [((.t 8),rqd)])] ⟨[],[]⟩)
def jdr:FuncId×Fx:=(47,je4 k47 [] ⟨[],[]⟩)
def jqg:FuncId×Fx:=(13,je4 k13 [(18,.l [((.t 6),(.ownc tql)),((.t 23),rqd)])] ⟨[(20,tql),(34,tql)],[]⟩)
def jif:FuncId×Fx:=(86,je4 k86 [] ⟨[],[]⟩)
def jf8:FuncId×Fx:=(87,je4 k87 [] ⟨[],[]⟩)
def jih:FuncId×Fx:=(88,je4 k88 [] ⟨[],[]⟩)
def jhp:FuncId×Fx:=(89,je4 k89 [] ⟨[],[]⟩)
def jig:FuncId×Fx:=(90,je4 k90 [] ⟨[],[]⟩)
def jii:FuncId×Fx:=(91,je4 k91 [] ⟨[],[]⟩)
def jhr:FuncId×Fx:=(92,je4 k92 [] ⟨[],[]⟩)
def jhq:FuncId×Fx:=(93,je4 k93 [] ⟨[],[]⟩)
def jgv:FuncId×Fx:=(69,je4 k69 [] ⟨[],[]⟩)
def je5:FuncId×Fx:=(85,je4 k85 [] ⟨[],[22]⟩)
def jmx:FuncId×Fx:=(71,je4 k71 [] ⟨[],[]⟩)
def jjd:FuncId×Fx:=(48,je4 k48 [(10,.l [((.t 28),rqd),((.b 6),rqh)]),(31,.l [((.t 51),rqd),((.o 3),(.aw tqb))]),(48,.l [((.t 67),rqd),((.o 4),(.aw tqg))])] ⟨[(22,tqg)],[]⟩)
def jgw:FuncId×Fx:=(70,je4 k70 [] ⟨[],[]⟩)
def jn7:FuncId×Fx:=(14,je4 k14 [] ⟨[],[]⟩)
def jql:FuncId×Fx:=(10,je4 k10 [] ⟨[],[]⟩)
def jrs:FuncId×Fx:=(25,je4 k25 [(6,.l [((.t 5),rqd)])] ⟨[],[]⟩)
def jm0:FuncId×Fx:=(26,je4 k26 [] ⟨[],[]⟩)
def jmy:FuncId×Fx:=(60,je4 k60 [(8,.l [((.t 3),rqu),((.t 4),rqd)]),(21,.l [((.t 5),rqd)])] ⟨[(30,tqb)],[]⟩)
def jmz:FuncId×Fx:=(28,je4 k28 [(8,.l [((.t 5),rqq),((.t 6),rqd)]),(20,.l [((.t 5),rqq),((.t 7),rqd)]),(32,.l [((.t 5),rqq),((.t 8),rqd)])] ⟨[(50,tqg)],[]⟩)
def jm1:FuncId×Fx:=(24,je4 k24 [(10,.l [((.t 3),rqu),((.t 4),rqq),((.t 5),rqd)])] ⟨[(75,tqg)],[]⟩)
def jn8:FuncId×Fx:=(9,je4 k9 [(44,.l [((.t 14),rqd),((.o 12),(.aw tqg))]),(63,.l [((.t 18),rqd),((.b 17),rqx)])] ⟨[(30,tqg),(159,tqg),(199,tqg)],[]⟩)
def jgx:FuncId×Fx:=(101,je4 kg5 [] ⟨[],[]⟩)
def jgy:FuncId×Fx:=(134,je4 kg0 [] ⟨[],[]⟩)
def jmw:FuncId×Fx:=(21,je4 k21 [] ⟨[],[]⟩)
def jk0:FuncId×Fx:=(53,je4 k53 [] ⟨[],[]⟩)
def jgz:FuncId×Fx:=(78,je4 k78 [(21,.j [] [((.t 6),(.d tqn))])] ⟨[(5,(.arr 24 tqi))],[]⟩)
def jkl:FuncId×Fx:=(100,je4 kg6 [] ⟨[],[]⟩)
def je6:FuncId×Fx:=(102,je4 kg4 [(4,.l [((.t 1),(.d tqn)),((.t 4),rqd),((.bm 1),(.d (.arr 24 tqi)))]),(36,.j [(.bm 1)] [((.t 4),rqd),((.t 12),(.d (.int .u32))),((.bm 1),(.d (.arr 24 tqi)))])] ⟨[],[]⟩)
def jcs:FuncId×Fx:=(107,je4 kg3 [] ⟨[],[]⟩)
def jgu:FuncId×Fx:=(56,je4 k56 [] ⟨[],[]⟩)
def jcg:FuncId×Fx:=(80,je4 k80 [] ⟨[],[]⟩)
def jqi:FuncId×Fx:=(22,je4 k22 [(8,.l [((.t 17),rqd),((.b 1),rqx)])] ⟨[(88,tqg)],[]⟩)
def jei:FuncId×Fx:=(58,je4 k58 [] ⟨[],[]⟩)
def jev:FuncId×Fx:=(59,je4 k59 [] ⟨[],[]⟩)
def jkk:FuncId×Fx:=(5,je4 k5 [(18,.l [((.t 6),rqm),((.t 7),rqd)]),(33,.l [((.t 6),rqm),((.t 8),rqd)]),(49,.j [] [((.t 10),rqm)]),(58,.j [] [((.t 101),rqp)])] ⟨[],[]⟩)
def jqk:FuncId×Fx:=(23,je4 k23 [(14,.l [((.t 5),rqd)]),(35,.l [((.t 6),rqd)])] ⟨[],[]⟩)
end
end Go.Vm.X
