/-
  The annotations of the program's functions. (Printed by a program.)
-/
import Derived.Test.YtccefhabickfiaaGreatDoorVmP
set_option linter.unusedSimpArgs false
set_option linter.unusedVariables false
set_option linter.unusedSectionVars false
set_option linter.unnecessarySimpa false
namespace Go.Vm.X
open Go Go.Vm Go.Vm.W Go.Proofs.YtccefhabickfiaaGreatDoor.Vm
noncomputable section
set_option maxRecDepth 100000
abbrev tU:Ty:=.int .i64
abbrev oO:Ty:=.int .u8
abbrev wO:Ty:=.prod tU tU
abbrev cQ:Rep:=.d tU
abbrev zK:Ty:=.prod tU oO
abbrev tqf:Ty:=.prod oO tU
abbrev tqg:Ty:=.prod tqf wO
abbrev sU:Ty:=.prod oO tqg
abbrev tqi:Ty:=.prod oO oO
abbrev tqj:Ty:=.prod tU tqi
abbrev jI:Rep:=.d .str
abbrev tql:Ty:=.prod tU zK
abbrev nO:Rep:=.d wO
abbrev n8:Ty:=.arr 3 wO
abbrev Y8:Ty:=.prod tqf tU
abbrev xM:Rep:=.d .bool
abbrev tqq:Ty:=.prod zK tU
abbrev zD:Rep:=.d tqf
abbrev zF:Rep:=.d tql
abbrev m8:Rep:=.d oO
abbrev tqu:Ty:=.sl tqj
abbrev tqv:Ty:=.prod tU tqu
abbrev tqw:Ty:=.prod tU tqv
abbrev rqx:Rep:=.own sU
abbrev rqy:Rep:=.p cQ .nl
abbrev rqz:Rep:=.p cQ rqy
abbrev Q2:Rep:=.d zK
abbrev rq2:Rep:=.own .str
abbrev rq3:Rep:=.own zK
abbrev rq4:Rep:=.own tqj
abbrev tq5:Ty:=.int .u64
abbrev rq6:Rep:=.d tqw
abbrev rq7:Rep:=.p cQ rq4
abbrev rq8:Rep:=.p cQ rq7
abbrev tq9:Ty:=.prod zK tqg
def jnb:FuncId×Fx:=(33,dN V7 [] ⟨[],[]⟩)
def jna:FuncId×Fx:=(167,dN V1 [] ⟨[],[]⟩)
def jio:FuncId×Fx:=(170,dN V4 [] ⟨[],[]⟩)
def jnf:FuncId×Fx:=(188,dN V6 [] ⟨[],[]⟩)
def jnd:FuncId×Fx:=(169,dN V3 [] ⟨[],[]⟩)
def ja4:FuncId×Fx:=(171,dN V5 [] ⟨[],[]⟩)
def jm9:FuncId×Fx:=(168,dN V2 [] ⟨[],[]⟩)
def jne:FuncId×Fx:=(128,dN U9 [] ⟨[],[]⟩)
def j8m:FuncId×Fx:=(89,dN k89 [] ⟨[],[]⟩)
def jnc:FuncId×Fx:=(161,dN V0 [] ⟨[],[]⟩)
def j8p:FuncId×Fx:=(129,dN jkb [] ⟨[],[]⟩)
def jxc:FuncId×Fx:=(98,dN k98 [] ⟨[],[]⟩)
def j6j:FuncId×Fx:=(130,dN jkc [(18,.j [(.b 4)] [((.b 4),zD)]),(22,.j [(.b 4)] [((.b 4),zD)]),(26,.j [(.b 4)] [((.b 4),zD)])] ⟨[],[]⟩)
def j6i:FuncId×Fx:=(131,dN jkd [(18,.l [((.t 21),cQ),((.b 4),(.d n8))])] ⟨[(2,n8),(5,n8)],[]⟩)
def j8l:FuncId×Fx:=(92,dN k92 [] ⟨[],[]⟩)
def j8k:FuncId×Fx:=(93,dN k93 [] ⟨[(8,n8)],[]⟩)
def j8o:FuncId×Fx:=(81,dN k81 [(18,.f kew [((.b 1),(.p rq3 .u))])] ⟨[(17,zK)],[]⟩)
def jxd:FuncId×Fx:=(82,dN k82 [] ⟨[],[]⟩)
def j8n:FuncId×Fx:=(115,dN jj9 [] ⟨[],[]⟩)
def j8i:FuncId×Fx:=(94,dN k94 [] ⟨[],[]⟩)
def j8f:FuncId×Fx:=(58,dN k58 [] ⟨[],[]⟩)
def j8h:FuncId×Fx:=(51,dN k51 [(10,.l [((.t 20),cQ),((.o 2),(.mp Y8 tqq))])] ⟨[(17,(.prod Y8 tqq))],[]⟩)
def j8g:FuncId×Fx:=(64,dN k64 [] ⟨[],[]⟩)
def j7b:FuncId×Fx:=(87,dN k87 [] ⟨[],[]⟩)
def j7d:FuncId×Fx:=(88,dN k88 [] ⟨[],[]⟩)
def j8t:FuncId×Fx:=(127,dN jka [(6,.l [((.t 8),cQ)])] ⟨[],[]⟩)
def j8s:FuncId×Fx:=(86,dN k86 [] ⟨[],[]⟩)
def j7e:FuncId×Fx:=(91,dN k91 [] ⟨[],[]⟩)
def j7a:FuncId×Fx:=(57,dN k57 [(24,.l [((.t 21),cQ)]),(49,.l [((.t 8),cQ)])] ⟨[],[]⟩)
def j7c:FuncId×Fx:=(90,dN k90 [] ⟨[],[]⟩)
def j8b:FuncId×Fx:=(35,dN k35 [(18,.l [((.t 5),rqx),((.t 27),cQ)]),(39,.l [((.t 5),(.d (.sl sU))),((.t 10),rqx)]),(55,.l [((.t 12),cQ),((.t 65),cQ),((.b 4),(.d (.prod oO (.prod oO (.prod tU wO)))))])] ⟨[(23,sU),(51,sU),(96,sU)],[]⟩)
def j8r:FuncId×Fx:=(61,dN k61 [] ⟨[],[]⟩)
def j8d:FuncId×Fx:=(34,dN k34 [(22,.l [((.t 10),rq4),((.t 28),cQ),((.b 1),rqz),((.o 3),(.mp zK oO))]),(46,.l [((.t 10),rq4),((.t 46),cQ),((.b 1),rqz),((.o 3),(.mp zK oO))])] ⟨[(68,tqj),(25,(.prod zK oO))],[]⟩)
def j8j:FuncId×Fx:=(52,dN k52 [(16,.l [((.t 6),rq3),((.t 7),cQ)])] ⟨[(40,zK)],[]⟩)
def j8q:FuncId×Fx:=(56,dN k56 [] ⟨[],[]⟩)
def j7u:FuncId×Fx:=(29,dN k29 [] ⟨[],[]⟩)
def j7p:FuncId×Fx:=(99,dN k99 [(8,.l [((.t 3),(.own tql)),((.t 4),cQ)]),(20,.l [((.t 3),(.own tql)),((.t 5),cQ)]),(32,.l [((.t 3),(.own tql)),((.t 6),m8)])] ⟨[(28,tql)],[]⟩)
def j7r:FuncId×Fx:=(112,dN jj7 [] ⟨[],[]⟩)
def j7f:FuncId×Fx:=(145,dN jki [] ⟨[],[]⟩)
def j7h:FuncId×Fx:=(186,dN jkm [] ⟨[],[]⟩)
def j7i:FuncId×Fx:=(157,dN jkj [] ⟨[],[25]⟩)
def j7k:FuncId×Fx:=(111,dN jj6 [] ⟨[],[]⟩)
def j7l:FuncId×Fx:=(144,dN jkh [] ⟨[(2,n8),(5,(.arr 4 wO))],[]⟩)
def j7o:FuncId×Fx:=(158,dN jkk [(6,.l [((.t 3),cQ),((.b 1),zF)]),(26,.l [((.t 7),m8),((.b 1),zF)])] ⟨[(9,n8)],[19,24,29,34,44,48]⟩)
def j7m:FuncId×Fx:=(100,dN jj2 [(12,.l [((.t 9),m8),((.b 5),zD)])] ⟨[(5,n8)],[16,21,62]⟩)
def j7n:FuncId×Fx:=(113,dN jj8 [(10,.l [((.t 7),cQ),((.b 3),(.d n8))])] ⟨[(6,n8)],[]⟩)
def j7s:FuncId×Fx:=(78,dN k78 [] ⟨[],[]⟩)
def j7t:FuncId×Fx:=(49,dN k49 [(8,.l [((.t 3),rq3),((.t 4),cQ)]),(20,.l [((.t 3),rq3),((.t 5),cQ)])] ⟨[(31,zK)],[]⟩)
def j7q:FuncId×Fx:=(101,dN jj3 [(12,.l [((.t 8),(.own wO)),((.t 9),cQ)]),(24,.l [((.t 8),(.own wO)),((.t 10),cQ)])] ⟨[(55,wO),(6,n8),(7,n8)],[]⟩)
def j7v:FuncId×Fx:=(30,dN k30 [(14,.l [((.t 3),cQ)]),(41,.l [((.t 5),cQ),((.t 6),cQ),((.t 7),cQ)]),(56,.l [((.t 8),cQ),((.t 9),cQ)])] ⟨[],[]⟩)
def j7y:FuncId×Fx:=(41,dN k41 [(10,.l [((.t 7),cQ),((.b 3),rq8)])] ⟨[(46,tqj)],[]⟩)
def j7x:FuncId×Fx:=(77,dN k77 [(18,.l [((.t 9),cQ)])] ⟨[],[]⟩)
def j7w:FuncId×Fx:=(26,dN k26 [(14,.l [((.t 5),cQ)])] ⟨[],[]⟩)
def j73:FuncId×Fx:=(102,dN jj4 [] ⟨[],[]⟩)
def j7z:FuncId×Fx:=(66,dN k66 [(12,.l [((.t 5),(.own tq9)),((.t 6),cQ)])] ⟨[(57,tq9)],[]⟩)
def j70:FuncId×Fx:=(67,dN k67 [(6,.l [((.t 9),cQ),((.b 1),Q2)])] ⟨[],[]⟩)
def j75:FuncId×Fx:=(76,dN k76 [(18,.l [((.t 6),rq3),((.t 8),cQ)])] ⟨[(54,zK)],[]⟩)
def j76:FuncId×Fx:=(68,dN k68 [(6,.l [((.t 5),cQ)])] ⟨[],[]⟩)
def j71:FuncId×Fx:=(42,dN k42 [(12,.l [((.t 3),rqx),((.t 7),m8)]),(24,.l [((.t 3),rqx),((.t 8),cQ)]),(41,.l [((.t 3),rqx),((.t 11),cQ),((.b 5),(.d (.prod oO (.prod oO (.prod tU wO)))))])] ⟨[(83,sU),(98,sU)],[]⟩)
def j72:FuncId×Fx:=(48,dN k48 [(8,.l [((.t 8),cQ),((.b 1),rqz),((.o 3),(.aw oO))]),(30,.l [((.t 11),cQ),((.b 1),rqz),((.o 3),(.aw oO))])] ⟨[],[]⟩)
def j6v:FuncId×Fx:=(141,dN jkf [] ⟨[],[]⟩)
def j6t:FuncId×Fx:=(176,dN jkl [] ⟨[],[]⟩)
def j8u:FuncId×Fx:=(37,dN k37 [] ⟨[],[]⟩)
def j6s:FuncId×Fx:=(63,dN k63 [] ⟨[],[]⟩)
def j6r:FuncId×Fx:=(97,dN k97 [(21,.j [] [((.t 6),(.d tq5))])] ⟨[(5,(.arr 24 oO))],[]⟩)
def j6w:FuncId×Fx:=(140,dN jke [] ⟨[],[]⟩)
def j6u:FuncId×Fx:=(142,dN jkg [(4,.l [((.t 1),(.d tq5)),((.t 4),cQ),((.bm 1),(.d (.arr 24 oO)))]),(36,.j [(.bm 1)] [((.t 4),cQ),((.t 12),(.d (.int .u32))),((.bm 1),(.d (.arr 24 oO)))])] ⟨[],[]⟩)
def j69:FuncId×Fx:=(65,dN k65 [] ⟨[],[]⟩)
def j8e:FuncId×Fx:=(38,dN k38 [] ⟨[],[]⟩)
def j7g:FuncId×Fx:=(27,dN k27 [] ⟨[],[]⟩)
def j7j:FuncId×Fx:=(43,dN k43 [] ⟨[],[]⟩)
def j74:FuncId×Fx:=(22,dN k22 [] ⟨[],[]⟩)
def j8c:FuncId×Fx:=(47,dN k47 [] ⟨[],[]⟩)
def j6n:FuncId×Fx:=(39,dN k39 [] ⟨[],[]⟩)
def j8v:FuncId×Fx:=(44,dN k44 [] ⟨[],[]⟩)
def j6p:FuncId×Fx:=(69,dN k69 [] ⟨[],[]⟩)
def j6q:FuncId×Fx:=(103,dN jj5 [] ⟨[],[]⟩)
def j6o:FuncId×Fx:=(46,dN k46 [(16,.l [((.t 6),(.own tU)),((.t 30),cQ)])] ⟨[],[]⟩)
def j6m:FuncId×Fx:=(32,dN k32 [(10,.f kev [((.b 1),(.d (.prod tU .unit))),((.b 0),(.p cQ (.p cQ (.p rqx (.p cQ cQ))))),((.b 2),(.d (.prod .bool .unit))),((.b 3),(.d (.prod tU .unit)))])] ⟨[(79,sU)],[]⟩)
def j8w:FuncId×Fx:=(50,dN k50 [] ⟨[],[]⟩)
def j6k:FuncId×Fx:=(18,dN k18 [(54,.l [((.t 70),cQ),((.b 0),rqz)])] ⟨[],[]⟩)
def j6l:FuncId×Fx:=(25,dN k25 [(17,.j [] [((.t 4),jI)]),(24,.j [] [((.t 4),jI)])] ⟨[],[]⟩)
def j8a:FuncId×Fx:=(12,dN k12 [(8,.l [((.t 3),cQ),((.t 4),cQ)])] ⟨[],[]⟩)
def j79:FuncId×Fx:=(14,dN k14 [] ⟨[],[]⟩)
def j77:FuncId×Fx:=(21,dN k21 [(10,.l [((.t 3),jI),((.t 5),cQ)])] ⟨[],[]⟩)
def j78:FuncId×Fx:=(24,dN k24 [] ⟨[],[]⟩)
def j6y:FuncId×Fx:=(23,dN k23 [] ⟨[],[6,10,14,18,26]⟩)
def j6x:FuncId×Fx:=(20,dN k20 [(10,.l [((.t 5),cQ),((.o 3),(.aw oO))])] ⟨[],[]⟩)
def j67:FuncId×Fx:=(16,dN k16 [(8,.l [((.t 3),cQ),((.t 4),cQ)])] ⟨[],[]⟩)
def j65:FuncId×Fx:=(15,dN k15 [(8,.l [((.t 5),rq2),((.t 6),cQ)])] ⟨[],[]⟩)
def j68:FuncId×Fx:=(28,dN k28 [(16,.l [((.t 8),rqx),((.t 9),jI),((.t 10),cQ),((.t 11),cQ),((.t 12),cQ),((.b 0),rqz),((.b 3),nO)]),(30,.j [] [((.t 51),xM)]),(34,.j [] [((.t 68),xM)]),(44,.j [] [((.t 106),xM)]),(52,.j [] [((.t 117),xM)]),(104,.l [((.t 20),cQ),((.b 0),rqz)])] ⟨[(49,sU)],[]⟩)
def j64:FuncId×Fx:=(17,dN k17 [] ⟨[],[]⟩)
def j66:FuncId×Fx:=(13,dN k13 [(12,.j [] [((.t 61),xM)])] ⟨[(19,tqj)],[]⟩)
def j63:FuncId×Fx:=(4,dN k4 [(13,.j [] [((.t 0),jI)]),(20,.j [] [((.t 38),xM)])] ⟨[],[]⟩)
def j61:FuncId×Fx:=(5,dN k5 [(18,.j [(.b 5)] [((.t 8),rq2)]),(22,.j [(.b 5)] [((.t 8),rq2)]),(26,.j [(.b 5)] [((.t 8),rq2)]),(30,.j [(.b 5)] [((.t 8),rq2)]),(33,.j [(.b 5)] [((.o 5),(.aw .str))]),(38,.j [(.b 5)] [((.t 8),rq2)]),(47,.l [((.t 11),jI),((.t 12),cQ)])] ⟨[(51,.str),(63,.str),(98,.str)],[]⟩)
def j60:FuncId×Fx:=(6,dN k6 [(11,.j [] [((.t 8),m8)])] ⟨[],[]⟩)
def j6z:FuncId×Fx:=(7,dN k7 [] ⟨[],[]⟩)
def j62:FuncId×Fx:=(8,dN k8 [(24,.j [] [((.t 87),xM)]),(34,.j [] [((.t 109),xM)])] ⟨[],[]⟩)
def jxb:FuncId×Fx:=(9,dN k9 [(4,.j [] [((.t 38),xM)])] ⟨[],[]⟩)
end
end Go.Vm.X
