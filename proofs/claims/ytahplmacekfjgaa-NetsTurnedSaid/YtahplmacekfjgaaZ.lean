/-
  The annotations of the program's functions. (Printed by a program.)
-/
import Derived.Test.YtahplmacekfjgaaVmP
import Derived.Test.YtahplmacekfjgaaXG6
set_option linter.unusedSimpArgs false
set_option linter.unusedVariables false
set_option linter.unusedSectionVars false
set_option linter.unnecessarySimpa false
namespace Go.Vm.X
open Go Go.Vm Go.Vm.W Go.Proofs.Ytahplmacekfjgaa.Vm
noncomputable section
set_option maxRecDepth 100000
abbrev tqa:Ty:=.int .i64
abbrev tqb:Ty:=.prod tqa tqa
abbrev tqc:Ty:=.arr 3 tqa
abbrev rqd:Rep:=.d tqa
abbrev tqe:Ty:=.int .i8
abbrev tqf:Ty:=.prod .bool tqe
abbrev tqg:Ty:=.prod tqb tqf
abbrev rqh:Rep:=.d tqb
abbrev tqi:Ty:=.int .u8
abbrev tqj:Ty:=.prod tqc tqc
abbrev tqk:Ty:=.prod tqc tqj
abbrev tql:Ty:=.prod tqc tqi
abbrev rqm:Rep:=.d .bool
abbrev rqn:Rep:=.d tqc
abbrev tqo:Ty:=.sl tqb
abbrev tqp:Ty:=.sl tqg
abbrev tqq:Ty:=.prod tqo tqp
abbrev rqr:Rep:=.own tqg
abbrev rqs:Rep:=.d tqq
abbrev tqt:Ty:=.int .u64
abbrev rqu:Rep:=.own tqb
abbrev rqv:Rep:=.d tqg
def z_cmp_isNaN_int:FuncId×Fx:=(71,mkFx k71 [] ⟨[],[]⟩)
def z_cmp_Compare_int:FuncId×Fx:=(53,mkFx k53 [] ⟨[],[]⟩)
def z_cmp_Or_int:FuncId×Fx:=(52,mkFx k52 [(8,.l [((.t 8),rqd)])] ⟨[],[]⟩)
def z_nets_Square_compare:FuncId×Fx:=(37,mkFx k37 [] ⟨[],[]⟩)
def z_nets_Hinge_way:FuncId×Fx:=(54,mkFx k54 [] ⟨[],[]⟩)
def z_nets_Hinge_place:FuncId×Fx:=(38,mkFx k38 [] ⟨[],[]⟩)
def z_nets_Hinge_other:FuncId×Fx:=(30,mkFx k30 [] ⟨[],[]⟩)
def z_slices_BinarySearchFunc_nets_Square:FuncId×Fx:=(43,mkFx k43 [(8,.l [((.t 9),rqd),((.t 10),rqd)])] ⟨[],[]⟩)
def z_nets_Net_index:FuncId×Fx:=(29,mkFx k29 [] ⟨[],[]⟩)
def z_slices_Index_int:FuncId×Fx:=(72,mkFx k72 [(6,.l [((.t 8),rqd)])] ⟨[],[]⟩)
def z_slices_Contains_int:FuncId×Fx:=(55,mkFx k55 [] ⟨[],[]⟩)
def z_nets_Net_joined:FuncId×Fx:=(39,mkFx k39 [(8,.l [((.t 3),(.own tqa)),((.t 4),rqd)]),(20,.l [((.t 3),(.own tqa)),((.t 19),rqd)]),(36,.j [] [((.t 7),rqd),((.t 8),rqd)])] ⟨[],[]⟩)
def z_nets_Check:FuncId×Fx:=(16,mkFx k16 [(14,.l [((.t 16),rqd)]),(37,.l [((.t 58),rqd)]),(68,.l [((.t 94),rqd)])] ⟨[],[]⟩)
def z_nets_Vec_plus:FuncId×Fx:=(44,mkFx k44 [] ⟨[],[]⟩)
def z_nets_Vec_times:FuncId×Fx:=(58,mkFx k58 [] ⟨[],[]⟩)
def z_nets_Frame_front:FuncId×Fx:=(42,mkFx k42 [] ⟨[],[]⟩)
def z_nets_bent:FuncId×Fx:=(45,mkFx k45 [] ⟨[],[]⟩)
def z_nets_Frame_over:FuncId×Fx:=(31,mkFx k31 [] ⟨[],[]⟩)
def z_nets_Frame_back:FuncId×Fx:=(32,mkFx k32 [] ⟨[],[]⟩)
def z_nets_Place:FuncId×Fx:=(7,mkFx k7 [(24,.l [((.t 34),rqd),((.o 1),(.aw tqk)),((.o 2),(.aw .bool))]),(36,.l [((.t 39),rqd),((.o 1),(.aw tqk)),((.o 2),(.aw .bool))]),(65,.l [((.t 104),rqd)])] ⟨[(21,tqk)],[]⟩)
def z_nets_Frame_spot:FuncId×Fx:=(33,mkFx k33 [(8,.l [((.t 8),rqd),((.b 2),(.d (.prod tqa (.prod tqa (.prod tqa tqi)))))])] ⟨[],[]⟩)
def z_slices_Index_nets_Spot:FuncId×Fx:=(46,mkFx k46 [(6,.l [((.t 8),rqd)])] ⟨[],[]⟩)
def z_slices_Contains_nets_Spot:FuncId×Fx:=(34,mkFx k34 [] ⟨[],[]⟩)
def z_nets_Spots:FuncId×Fx:=(8,mkFx k8 [(18,.l [((.t 6),(.ownc tql)),((.t 23),rqd)])] ⟨[(20,tql),(34,tql)],[]⟩)
def z_nets_Square_stay:FuncId×Fx:=(60,mkFx k60 [] ⟨[],[]⟩)
def z_nets_Square_quarter:FuncId×Fx:=(61,mkFx k61 [] ⟨[],[]⟩)
def z_nets_Square_half:FuncId×Fx:=(62,mkFx k62 [] ⟨[],[]⟩)
def z_nets_Square_three:FuncId×Fx:=(63,mkFx k63 [] ⟨[],[]⟩)
def z_nets_Square_left:FuncId×Fx:=(64,mkFx k64 [] ⟨[],[]⟩)
def z_nets_Square_down:FuncId×Fx:=(65,mkFx k65 [] ⟨[],[]⟩)
def z_nets_Square_below:FuncId×Fx:=(66,mkFx k66 [] ⟨[],[]⟩)
def z_nets_Square_cross:FuncId×Fx:=(67,mkFx k67 [] ⟨[],[]⟩)
def z_nets_Square_turned:FuncId×Fx:=(47,mkFx k47 [] ⟨[],[]⟩)
def z_nets_Square_turned_c1:FuncId×Fx:=(59,mkFx k59 [] ⟨[],[22]⟩)
def z_nets_between:FuncId×Fx:=(49,mkFx k49 [] ⟨[],[]⟩)
def z_nets_Net_turned:FuncId×Fx:=(36,mkFx k36 [(10,.l [((.t 28),rqd),((.b 6),rqh)]),(31,.l [((.t 51),rqd),((.o 3),(.aw tqb))]),(48,.l [((.t 67),rqd),((.o 4),(.aw tqg))])] ⟨[(22,tqg)],[]⟩)
def z_nets_Net_turned_c1:FuncId×Fx:=(48,mkFx k48 [] ⟨[],[]⟩)
def z_nets_Turned:FuncId×Fx:=(14,mkFx k14 [] ⟨[],[]⟩)
def z_nets_Over:FuncId×Fx:=(15,mkFx k15 [(18,.l [((.t 18),rqd),((.o 3),(.aw tqg))])] ⟨[],[]⟩)
def z_law38_less:FuncId×Fx:=(19,mkFx k19 [] ⟨[],[]⟩)
def z_law38_has:FuncId×Fx:=(18,mkFx k18 [(6,.l [((.t 5),rqd)])] ⟨[],[]⟩)
def z_law38_beside:FuncId×Fx:=(11,mkFx k11 [] ⟨[],[]⟩)
def z_law38_sorted:FuncId×Fx:=(40,mkFx k40 [(8,.l [((.t 3),rqu),((.t 4),rqd)]),(21,.l [((.t 5),rqd)])] ⟨[(30,tqb)],[]⟩)
def z_law38_hinges:FuncId×Fx:=(28,mkFx k28 [(8,.l [((.t 5),rqr),((.t 6),rqd)]),(20,.l [((.t 5),rqr),((.t 7),rqd)]),(32,.l [((.t 5),rqr),((.t 8),rqd)])] ⟨[(50,tqg)],[]⟩)
def z_law38_N_Tree:FuncId×Fx:=(23,mkFx k23 [(10,.l [((.t 3),rqu),((.t 4),rqr),((.t 5),rqd)])] ⟨[(75,tqg)],[]⟩)
def z_law38_lives:FuncId×Fx:=(9,mkFx k9 [(44,.l [((.t 14),rqd),((.o 12),(.aw tqg))]),(63,.l [((.t 18),rqd),((.b 17),(.p rqu rqr))])] ⟨[(30,tqg),(159,tqg),(199,tqg)],[]⟩)
def z_law38_index:FuncId×Fx:=(13,mkFx k13 [(6,.l [((.t 5),rqd)])] ⟨[],[]⟩)
def z_law38_added:FuncId×Fx:=(35,mkFx k35 [] ⟨[],[]⟩)
def z_law38_middle:FuncId×Fx:=(21,mkFx k21 [(8,.l [((.t 4),rqd),((.b 2),(.d (.prod tqa tqb)))])] ⟨[],[]⟩)
def z_law38_far:FuncId×Fx:=(20,mkFx k20 [] ⟨[],[]⟩)
def z_law38_moved:FuncId×Fx:=(17,mkFx k17 [] ⟨[],[52,55]⟩)
def z_law38_NetsTurned:FuncId×Fx:=(4,mkFx k4 [(13,.j [(.b 4),(.b 5),(.b 6)] [((.t 8),(.d tqi)),((.t 9),(.d tqe)),((.t 11),rqd),((.b 6),(.p (.ownc tqb) (.ownc tqg)))]),(22,.j [] [((.t 95),rqm)]),(34,.l [((.t 13),rqd),((.b 9),rqh)]),(53,.l [((.t 15),(.own tqa)),((.t 16),rqd)]),(80,.l [((.t 18),rqd)]),(96,.j [(.b 12)] [((.b 12),rqh)]),(104,.j [(.b 13),(.b 14)] [((.b 13),rqh),((.b 14),rqh)]),(113,.l [((.t 23),rqm),((.t 24),rqd)]),(140,.j [] [((.t 280),rqm)]),(150,.l [((.t 30),rqd)]),(162,.l [((.t 31),rqd)]),(181,.j [] [((.t 32),(.ownc tqi))]),(189,.j [(.b 17),(.b 18),(.b 19)] [((.t 36),rqd),((.b 19),(.p (.ownc tqb) (.ownc tqg)))])] ⟨[],[]⟩)
def z_law38_same:FuncId×Fx:=(22,mkFx k22 [(14,.l [((.t 5),rqd)]),(35,.l [((.t 6),rqd)])] ⟨[],[]⟩)
end
end Go.Vm.X
