/-
  The annotations of the program's functions. (Printed by a program.)
-/
import Derived.Test.YtonohffniohehaaGreatDoorVmP
set_option linter.unusedSimpArgs false
set_option linter.unusedVariables false
set_option linter.unusedSectionVars false
set_option linter.unnecessarySimpa false
namespace Go.Vm.X
open Go Go.Vm Go.Vm.W Go.Proofs.YtonohffniohehaaGreatDoor.Vm
noncomputable section
set_option maxRecDepth 100000
abbrev tqa:Ty:=.int .i64
abbrev tqb:Ty:=.int .u8
abbrev tqc:Ty:=.prod tqa tqa
abbrev tqd:Ty:=.prod tqa tqb
abbrev tqe:Ty:=.prod tqb tqa
abbrev rqf:Rep:=.d tqa
abbrev tqg:Ty:=.prod tqb tqb
abbrev tqh:Ty:=.prod tqa tqg
abbrev tqi:Ty:=.prod tqe tqc
abbrev tqj:Ty:=.prod tqb tqi
abbrev tqk:Ty:=.prod tqa tqd
abbrev tql:Ty:=.prod tqe tqa
abbrev tqm:Ty:=.prod tqd tqa
abbrev rqn:Rep:=.d tqc
abbrev tqo:Ty:=.arr 3 tqc
abbrev rqp:Rep:=.d tqk
abbrev rqq:Rep:=.d tqe
abbrev rqr:Rep:=.d tqb
abbrev rqs:Rep:=.d .str
abbrev tqt:Ty:=.int .u64
abbrev rqu:Rep:=.d tqd
abbrev rqv:Rep:=.own tqd
abbrev rqw:Rep:=.own tqh
abbrev rqx:Rep:=.d .bool
def z_sheets_Check:FuncId×Fx:=(31,mkFx k31 [] ⟨[],[]⟩)
def z_sheets_Cell:FuncId×Fx:=(133,mkFx k133 [] ⟨[],[]⟩)
def z_sheets_Sheet_cell:FuncId×Fx:=(136,mkFx k136 [] ⟨[],[]⟩)
def z_sheets_Sheet_has:FuncId×Fx:=(159,mkFx k159 [] ⟨[],[]⟩)
def z_sheets_Id:FuncId×Fx:=(135,mkFx k135 [] ⟨[],[]⟩)
def z_cells_Check:FuncId×Fx:=(137,mkFx k137 [] ⟨[],[]⟩)
def z_cells_Neighbour:FuncId×Fx:=(134,mkFx k134 [] ⟨[],[]⟩)
def z_sheets_Neighbour:FuncId×Fx:=(91,mkFx k91 [] ⟨[],[]⟩)
def z_sheets_Name:FuncId×Fx:=(67,mkFx k67 [] ⟨[],[]⟩)
def z_sheets_Count:FuncId×Fx:=(130,mkFx k130 [] ⟨[],[]⟩)
def z_sheets_named:FuncId×Fx:=(92,mkFx k92 [] ⟨[],[]⟩)
def z_lines_Check:FuncId×Fx:=(84,mkFx k84 [] ⟨[],[]⟩)
def z_cells_Line:FuncId×Fx:=(93,mkFx k93 [(18,.j [(.b 4)] [((.b 4),rqq)]),(22,.j [(.b 4)] [((.b 4),rqq)]),(26,.j [(.b 4)] [((.b 4),rqq)])] ⟨[],[]⟩)
def z_cells_Corners:FuncId×Fx:=(94,mkFx k94 [(18,.l [((.t 21),rqf),((.b 4),(.d tqo))])] ⟨[(2,tqo),(5,tqo)],[]⟩)
def z_sheets_Line:FuncId×Fx:=(70,mkFx k70 [] ⟨[],[]⟩)
def z_sheets_Ends:FuncId×Fx:=(71,mkFx k71 [] ⟨[(8,tqo)],[]⟩)
def z_slices_Clip_sheets_Unit:FuncId×Fx:=(58,mkFx k58 [] ⟨[],[]⟩)
def z_sheets_Units:FuncId×Fx:=(59,mkFx k59 [(18,.f itUn [((.b 1),(.p rqv .u))])] ⟨[(17,tqd)],[]⟩)
def z_sheets_Sheet_all:FuncId×Fx:=(86,mkFx k86 [] ⟨[],[]⟩)
def z_segments_place:FuncId×Fx:=(72,mkFx k72 [] ⟨[],[]⟩)
def z_segments_lies:FuncId×Fx:=(38,mkFx k38 [] ⟨[],[]⟩)
def z_segments_pieces:FuncId×Fx:=(33,mkFx k33 [(10,.l [((.t 20),rqf),((.o 2),(.mp tql tqm))])] ⟨[(17,(.prod tql tqm))],[]⟩)
def z_segments_ordinary:FuncId×Fx:=(55,mkFx k55 [] ⟨[],[]⟩)
def z_segments_Units:FuncId×Fx:=(11,mkFx k11 [] ⟨[],[]⟩)
def z_segments_units:FuncId×Fx:=(32,mkFx k32 [(16,.l [((.t 6),rqv),((.t 7),rqf)])] ⟨[(40,tqd)],[]⟩)
def z_segments_Check:FuncId×Fx:=(12,mkFx k12 [] ⟨[],[]⟩)
def z_patterns_Check_c1:FuncId×Fx:=(65,mkFx k65 [] ⟨[],[]⟩)
def z_patterns_isKind:FuncId×Fx:=(66,mkFx k66 [] ⟨[],[]⟩)
def z_slices_IndexFunc_patterns_Crease:FuncId×Fx:=(90,mkFx k90 [(6,.l [((.t 8),rqf)])] ⟨[],[]⟩)
def z_slices_ContainsFunc_patterns_Crease:FuncId×Fx:=(64,mkFx k64 [] ⟨[],[]⟩)
def z_patterns_order:FuncId×Fx:=(69,mkFx k69 [] ⟨[],[]⟩)
def z_patterns_Check:FuncId×Fx:=(37,mkFx k37 [(24,.l [((.t 21),rqf)]),(49,.l [((.t 8),rqf)])] ⟨[],[]⟩)
def z_patterns_Crease_unit:FuncId×Fx:=(68,mkFx k68 [] ⟨[],[]⟩)
def z_patterns_Opposite:FuncId×Fx:=(28,mkFx k28 [(20,.l [((.t 23),rqf),((.o 2),(.aw tqh))])] ⟨[(16,tqh)],[]⟩)
def z_segments_Of:FuncId×Fx:=(16,mkFx k16 [(18,.l [((.t 5),(.own tqj)),((.t 27),rqf)]),(39,.l [((.t 5),(.d (.sl tqj))),((.t 10),(.own tqj))]),(55,.l [((.t 12),rqf),((.t 65),rqf),((.b 4),(.d (.prod tqb (.prod tqb (.prod tqa tqc)))))])] ⟨[(23,tqj),(51,tqj),(96,tqj)],[]⟩)
def z_slices_Clip_segments_Segment:FuncId×Fx:=(42,mkFx k42 [] ⟨[],[]⟩)
def z_segments_Pattern:FuncId×Fx:=(18,mkFx k18 [(22,.l [((.t 10),rqw),((.t 28),rqf),((.b 1),(.p rqf (.p rqf .nl))),((.o 3),(.mp tqd tqb))]),(46,.l [((.t 10),rqw),((.t 46),rqf),((.b 1),(.p rqf (.p rqf .nl))),((.o 3),(.mp tqd tqb))])] ⟨[(68,tqh),(25,(.prod tqd tqb))],[]⟩)
def z_slices_Clip_patterns_Crease:FuncId×Fx:=(46,mkFx k46 [] ⟨[],[]⟩)
def z_ref05_Id:FuncId×Fx:=(114,mkFx k114 [] ⟨[],[]⟩)
def z_ref01_Across:FuncId×Fx:=(88,mkFx k88 [] ⟨[],[]⟩)
def z_ref01_Far:FuncId×Fx:=(158,mkFx k158 [] ⟨[],[]⟩)
def z_ref01_Reflect:FuncId×Fx:=(131,mkFx k131 [] ⟨[],[25]⟩)
def z_ref03_Corners:FuncId×Fx:=(87,mkFx k87 [] ⟨[(2,tqo),(5,(.arr 4 tqc))],[]⟩)
def z_ref03_With:FuncId×Fx:=(132,mkFx k132 [(6,.l [((.t 3),rqf),((.b 1),rqp)]),(26,.l [((.t 7),rqr),((.b 1),rqp)])] ⟨[(9,tqo)],[19,24,29,34,44,48]⟩)
def z_ref03_Line:FuncId×Fx:=(61,mkFx k61 [(12,.l [((.t 9),rqr),((.b 5),rqq)])] ⟨[(5,tqo)],[16,21,62]⟩)
def z_ref03_Neighbour:FuncId×Fx:=(89,mkFx k89 [(10,.l [((.t 7),rqf),((.b 3),(.d tqo))])] ⟨[(6,tqo)],[]⟩)
def z_ref05_Neighbour:FuncId×Fx:=(77,mkFx k77 [] ⟨[],[]⟩)
def z_ref05_Units:FuncId×Fx:=(47,mkFx k47 [(8,.l [((.t 3),rqv),((.t 4),rqf)]),(20,.l [((.t 3),rqv),((.t 5),rqf)])] ⟨[(31,tqd)],[]⟩)
def z_ref06_With:FuncId×Fx:=(36,mkFx k36 [(10,.l [((.t 7),rqf),((.b 3),(.p rqf (.p rqf rqw)))])] ⟨[(46,tqh)],[]⟩)
def z_ref06_Other:FuncId×Fx:=(29,mkFx k29 [] ⟨[],[]⟩)
def z_istrconv_numDigits:FuncId×Fx:=(155,mkFx k155 [] ⟨[],[]⟩)
def z_istrconv_bool2_int:FuncId×Fx:=(166,mkFx k166 [] ⟨[],[]⟩)
def z_strconv_Itoa:FuncId×Fx:=(57,mkFx k57 [] ⟨[],[]⟩)
def z_istrconv_Itoa:FuncId×Fx:=(85,mkFx k85 [] ⟨[],[]⟩)
def z_istrconv_FormatInt:FuncId×Fx:=(128,mkFx k128 [(21,.j [] [((.t 6),(.d tqt))])] ⟨[(5,(.arr 24 tqb))],[]⟩)
def z_istrconv_small:FuncId×Fx:=(154,mkFx k154 [] ⟨[],[]⟩)
def z_istrconv_formatBase10:FuncId×Fx:=(156,mkFx k156 [(4,.l [((.t 1),(.d tqt)),((.t 4),rqf),((.bm 1),(.d (.arr 24 tqb)))]),(36,.j [(.bm 1)] [((.t 4),rqf),((.t 12),(.d (.int .u32))),((.bm 1),(.d (.arr 24 tqb)))])] ⟨[],[]⟩)
def z_lines_Text:FuncId×Fx:=(56,mkFx k56 [] ⟨[],[]⟩)
def z_segments_Text:FuncId×Fx:=(27,mkFx k27 [] ⟨[],[]⟩)
def z_segments_Parse:FuncId×Fx:=(26,mkFx k26 [] ⟨[],[]⟩)
def z_law07_segment:FuncId×Fx:=(30,mkFx k30 [] ⟨[],[]⟩)
def z_law07_lives:FuncId×Fx:=(13,mkFx k13 [(12,.j [] [((.t 68),rqx)]),(22,.l [((.t 8),rqf)]),(40,.j [] [((.t 9),(.ownc tqj))]),(42,.j [] [((.t 10),(.ownc tqa))]),(47,.l [((.t 11),rqf)])] ⟨[(92,tqj),(114,tqh),(127,tqj)],[]⟩)
def z_law06_P_Of:FuncId×Fx:=(15,mkFx k15 [(10,.l [((.t 5),rqf),((.o 3),(.aw tqb))])] ⟨[],[]⟩)
def z_law07_SegmentsTurned:FuncId×Fx:=(8,mkFx k8 [(22,.l [((.t 10),rqf)])] ⟨[],[]⟩)
end
end Go.Vm.X
