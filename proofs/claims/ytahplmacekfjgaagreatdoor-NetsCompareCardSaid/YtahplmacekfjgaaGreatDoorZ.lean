/-
  The annotations of the program's functions. (Printed by a program.)
-/
import Derived.Test.YtahplmacekfjgaaGreatDoorVmP
import Derived.Test.YtahplmacekfjgaaGreatDoorXG6
set_option linter.unusedSimpArgs false
set_option linter.unusedVariables false
set_option linter.unusedSectionVars false
set_option linter.unnecessarySimpa false
namespace Go.Vm.X
open Go Go.Vm Go.Vm.W Go.Proofs.YtahplmacekfjgaaGreatDoor.Vm
noncomputable section
set_option maxRecDepth 100000
abbrev tqa:Ty:=.int .i64
abbrev tqb:Ty:=.prod tqa tqa
abbrev tqc:Ty:=.arr 3 tqa
abbrev tqd:Ty:=.int .i8
abbrev tqe:Ty:=.prod .bool tqd
abbrev tqf:Ty:=.prod tqb tqe
abbrev rqg:Rep:=.d tqa
abbrev rqh:Rep:=.d tqb
abbrev tqi:Ty:=.int .u8
abbrev tqj:Ty:=.int .u64
abbrev tqk:Ty:=.prod tqc tqc
abbrev tql:Ty:=.prod tqc tqk
abbrev tqm:Ty:=.prod tqc tqi
abbrev tqn:Ty:=.sl tqb
abbrev tqo:Ty:=.sl tqf
abbrev tqp:Ty:=.prod tqn tqo
abbrev rqq:Rep:=.d .bool
abbrev rqr:Rep:=.own tqf
abbrev tqs:Ty:=.prod tqj tqj
abbrev rqt:Rep:=.d tqp
abbrev rqu:Rep:=.d tqc
abbrev rqv:Rep:=.d tqf
abbrev tqw:Ty:=.arr 3 tqi
abbrev rqx:Rep:=.own tqb
def z_cmp_isNaN_int8:FuncId×Fx:=(62,mkFx k62 [] ⟨[],[]⟩)
def z_cmp_Compare_int8:FuncId×Fx:=(36,mkFx k36 [] ⟨[],[]⟩)
def z_cmp_isNaN_int:FuncId×Fx:=(61,mkFx k61 [] ⟨[],[]⟩)
def z_cmp_Compare_int:FuncId×Fx:=(29,mkFx k29 [] ⟨[],[]⟩)
def z_cmp_Or_int:FuncId×Fx:=(34,mkFx k34 [(8,.l [((.t 8),rqg)])] ⟨[],[]⟩)
def z_nets_Square_compare:FuncId×Fx:=(31,mkFx k31 [] ⟨[],[]⟩)
def z_nets_Hinge_way:FuncId×Fx:=(40,mkFx k40 [] ⟨[],[]⟩)
def z_nets_Hinge_place:FuncId×Fx:=(35,mkFx k35 [] ⟨[],[]⟩)
def z_nets_Hinge_other:FuncId×Fx:=(43,mkFx k43 [] ⟨[],[]⟩)
def z_slices_BinarySearchFunc_nets_Square:FuncId×Fx:=(65,mkFx k65 [(8,.l [((.t 9),rqg),((.t 10),rqg)])] ⟨[],[]⟩)
def z_nets_Net_index:FuncId×Fx:=(42,mkFx k42 [] ⟨[],[]⟩)
def z_slices_Index_int:FuncId×Fx:=(97,mkFx k97 [(6,.l [((.t 8),rqg)])] ⟨[],[]⟩)
def z_slices_Contains_int:FuncId×Fx:=(74,mkFx k74 [] ⟨[],[]⟩)
def z_nets_Net_joined:FuncId×Fx:=(49,mkFx k49 [(8,.l [((.t 3),(.own tqa)),((.t 4),rqg)]),(20,.l [((.t 3),(.own tqa)),((.t 19),rqg)]),(36,.j [] [((.t 7),rqg),((.t 8),rqg)])] ⟨[],[]⟩)
def z_nets_Check:FuncId×Fx:=(16,mkFx k16 [(14,.l [((.t 16),rqg)]),(37,.l [((.t 58),rqg)]),(68,.l [((.t 94),rqg)])] ⟨[],[]⟩)
def z_nets_Vec_plus:FuncId×Fx:=(66,mkFx k66 [] ⟨[],[]⟩)
def z_nets_Vec_times:FuncId×Fx:=(77,mkFx k77 [] ⟨[],[]⟩)
def z_nets_Frame_front:FuncId×Fx:=(51,mkFx k51 [] ⟨[],[]⟩)
def z_nets_bent:FuncId×Fx:=(67,mkFx k67 [] ⟨[],[]⟩)
def z_nets_Frame_over:FuncId×Fx:=(44,mkFx k44 [] ⟨[],[]⟩)
def z_nets_Frame_back:FuncId×Fx:=(45,mkFx k45 [] ⟨[],[]⟩)
def z_nets_Place:FuncId×Fx:=(12,mkFx k12 [(24,.l [((.t 34),rqg),((.o 1),(.aw tql)),((.o 2),(.aw .bool))]),(36,.l [((.t 39),rqg),((.o 1),(.aw tql)),((.o 2),(.aw .bool))]),(65,.l [((.t 104),rqg)])] ⟨[(21,tql)],[]⟩)
def z_nets_Frame_spot:FuncId×Fx:=(46,mkFx k46 [(8,.l [((.t 8),rqg),((.b 2),(.d (.prod tqa (.prod tqa (.prod tqa tqi)))))])] ⟨[],[]⟩)
def z_slices_Index_nets_Spot:FuncId×Fx:=(68,mkFx k68 [(6,.l [((.t 8),rqg)])] ⟨[],[]⟩)
def z_slices_Contains_nets_Spot:FuncId×Fx:=(47,mkFx k47 [] ⟨[],[]⟩)
def z_nets_Spots:FuncId×Fx:=(13,mkFx k13 [(18,.l [((.t 6),(.ownc tqm)),((.t 23),rqg)])] ⟨[(20,tqm),(34,tqm)],[]⟩)
def z_nets_Square_stay:FuncId×Fx:=(86,mkFx k86 [] ⟨[],[]⟩)
def z_nets_Square_quarter:FuncId×Fx:=(87,mkFx k87 [] ⟨[],[]⟩)
def z_nets_Square_half:FuncId×Fx:=(88,mkFx k88 [] ⟨[],[]⟩)
def z_nets_Square_three:FuncId×Fx:=(89,mkFx k89 [] ⟨[],[]⟩)
def z_nets_Square_left:FuncId×Fx:=(90,mkFx k90 [] ⟨[],[]⟩)
def z_nets_Square_down:FuncId×Fx:=(91,mkFx k91 [] ⟨[],[]⟩)
def z_nets_Square_below:FuncId×Fx:=(92,mkFx k92 [] ⟨[],[]⟩)
def z_nets_Square_cross:FuncId×Fx:=(93,mkFx k93 [] ⟨[],[]⟩)
def z_nets_Square_turned:FuncId×Fx:=(69,mkFx k69 [] ⟨[],[]⟩)
def z_nets_Square_turned_c1:FuncId×Fx:=(85,mkFx k85 [] ⟨[],[22]⟩)
def z_nets_between:FuncId×Fx:=(71,mkFx k71 [] ⟨[],[]⟩)
def z_nets_Net_turned:FuncId×Fx:=(48,mkFx k48 [(10,.l [((.t 28),rqg),((.b 6),rqh)]),(31,.l [((.t 51),rqg),((.o 3),(.aw tqb))]),(48,.l [((.t 67),rqg),((.o 4),(.aw tqf))])] ⟨[(22,tqf)],[]⟩)
def z_nets_Net_turned_c1:FuncId×Fx:=(70,mkFx k70 [] ⟨[],[]⟩)
def z_nets_Turned:FuncId×Fx:=(14,mkFx k14 [] ⟨[],[]⟩)
def z_law38_less:FuncId×Fx:=(10,mkFx k10 [] ⟨[],[]⟩)
def z_law38_has:FuncId×Fx:=(25,mkFx k25 [(6,.l [((.t 5),rqg)])] ⟨[],[]⟩)
def z_law38_beside:FuncId×Fx:=(26,mkFx k26 [] ⟨[],[]⟩)
def z_law38_sorted:FuncId×Fx:=(60,mkFx k60 [(8,.l [((.t 3),rqx),((.t 4),rqg)]),(21,.l [((.t 5),rqg)])] ⟨[(30,tqb)],[]⟩)
def z_law38_hinges:FuncId×Fx:=(28,mkFx k28 [(8,.l [((.t 5),rqr),((.t 6),rqg)]),(20,.l [((.t 5),rqr),((.t 7),rqg)]),(32,.l [((.t 5),rqr),((.t 8),rqg)])] ⟨[(50,tqf)],[]⟩)
def z_law38_N_Tree:FuncId×Fx:=(24,mkFx k24 [(10,.l [((.t 3),rqx),((.t 4),rqr),((.t 5),rqg)])] ⟨[(75,tqf)],[]⟩)
def z_law38_lives:FuncId×Fx:=(9,mkFx k9 [(44,.l [((.t 14),rqg),((.o 12),(.aw tqf))]),(63,.l [((.t 18),rqg),((.b 17),(.p rqx rqr))])] ⟨[(30,tqf),(159,tqf),(199,tqf)],[]⟩)
def z_istrconv_numDigits:FuncId×Fx:=(101,mkFx k101 [] ⟨[],[]⟩)
def z_istrconv_bool2_int:FuncId×Fx:=(134,mkFx k134 [] ⟨[],[]⟩)
def z_strconv_Itoa:FuncId×Fx:=(21,mkFx k21 [] ⟨[],[]⟩)
def z_istrconv_Itoa:FuncId×Fx:=(53,mkFx k53 [] ⟨[],[]⟩)
def z_istrconv_FormatInt:FuncId×Fx:=(78,mkFx k78 [(21,.j [] [((.t 6),(.d tqj))])] ⟨[(5,(.arr 24 tqi))],[]⟩)
def z_istrconv_small:FuncId×Fx:=(100,mkFx k100 [] ⟨[],[]⟩)
def z_istrconv_formatBase10:FuncId×Fx:=(102,mkFx k102 [(4,.l [((.t 1),(.d tqj)),((.t 4),rqg),((.bm 1),(.d (.arr 24 tqi)))]),(36,.j [(.bm 1)] [((.t 4),rqg),((.t 12),(.d (.int .u32))),((.bm 1),(.d (.arr 24 tqi)))])] ⟨[],[]⟩)
def z_nets_Compare_c1:FuncId×Fx:=(33,mkFx k33 [] ⟨[],[]⟩)
def z_slices_CompareFunc_nets_Square:FuncId×Fx:=(30,mkFx k30 [(6,.l [((.t 13),rqg)])] ⟨[],[]⟩)
def z_slices_CompareFunc_nets_Hinge:FuncId×Fx:=(32,mkFx k32 [(6,.l [((.t 13),rqg)])] ⟨[],[]⟩)
def z_nets_Compare:FuncId×Fx:=(7,mkFx k7 [] ⟨[],[]⟩)
def z_law38_NetsCompare:FuncId×Fx:=(3,mkFx k3 [(8,.j [] [((.t 85),rqq)]),(26,.l [((.t 13),rqg)]),(55,.l [((.t 14),rqg)])] ⟨[],[]⟩)
end
end Go.Vm.X
