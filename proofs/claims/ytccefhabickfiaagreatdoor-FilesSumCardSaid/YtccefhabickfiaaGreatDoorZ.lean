/-
  The annotations of the program's functions. (Printed by a program.)
-/
import Derived.Test.YtccefhabickfiaaGreatDoorVmP
set_option linter.unusedSimpArgs false
set_option linter.unusedVariables false
set_option linter.unusedSectionVars false
set_option linter.unnecessarySimpa false
namespace Go.Vm.X
open Go Go.Vm Go.Vm.W Go.Proofs.YtccefhabickfiaaGreatDoor.Vm
noncomputable section
set_option maxRecDepth 100000
abbrev tqa:Ty:=.int .i64
abbrev tqb:Ty:=.int .u8
abbrev tqc:Ty:=.prod tqa tqa
abbrev rqd:Rep:=.d tqa
abbrev tqe:Ty:=.prod tqb tqa
abbrev tqf:Ty:=.prod tqa tqb
abbrev tqg:Ty:=.prod tqe tqc
abbrev tqh:Ty:=.prod tqb tqg
abbrev tqi:Ty:=.prod tqb tqb
abbrev tqj:Ty:=.prod tqa tqi
abbrev rqk:Rep:=.d .str
abbrev tql:Ty:=.prod tqe tqa
abbrev tqm:Ty:=.prod tqf tqa
abbrev tqn:Ty:=.prod tqa tqf
abbrev rqo:Rep:=.d tqc
abbrev rqp:Rep:=.d .bool
abbrev tqq:Ty:=.int .u64
abbrev tqr:Ty:=.arr 3 tqc
abbrev tqs:Ty:=.sl tqj
abbrev tqt:Ty:=.prod tqa tqs
abbrev tqu:Ty:=.prod tqa tqt
abbrev rqv:Rep:=.d tqe
abbrev rqw:Rep:=.d tqn
abbrev rqx:Rep:=.d tqf
def z_sheets_Check:FuncId×Fx:=(33,mkFx k33 [] ⟨[],[]⟩)
def z_sheets_Cell:FuncId×Fx:=(167,mkFx k167 [] ⟨[],[]⟩)
def z_sheets_Sheet_cell:FuncId×Fx:=(170,mkFx k170 [] ⟨[],[]⟩)
def z_sheets_Sheet_has:FuncId×Fx:=(188,mkFx k188 [] ⟨[],[]⟩)
def z_sheets_Id:FuncId×Fx:=(169,mkFx k169 [] ⟨[],[]⟩)
def z_cells_Check:FuncId×Fx:=(171,mkFx k171 [] ⟨[],[]⟩)
def z_cells_Neighbour:FuncId×Fx:=(168,mkFx k168 [] ⟨[],[]⟩)
def z_sheets_Neighbour:FuncId×Fx:=(128,mkFx k128 [] ⟨[],[]⟩)
def z_sheets_Name:FuncId×Fx:=(89,mkFx k89 [] ⟨[],[]⟩)
def z_sheets_Count:FuncId×Fx:=(161,mkFx k161 [] ⟨[],[]⟩)
def z_sheets_named:FuncId×Fx:=(129,mkFx k129 [] ⟨[],[]⟩)
def z_lines_Check:FuncId×Fx:=(98,mkFx k98 [] ⟨[],[]⟩)
def z_cells_Line:FuncId×Fx:=(130,mkFx k130 [(18,.j [(.b 4)] [((.b 4),rqv)]),(22,.j [(.b 4)] [((.b 4),rqv)]),(26,.j [(.b 4)] [((.b 4),rqv)])] ⟨[],[]⟩)
def z_cells_Corners:FuncId×Fx:=(131,mkFx k131 [(18,.l [((.t 21),rqd),((.b 4),(.d tqr))])] ⟨[(2,tqr),(5,tqr)],[]⟩)
def z_sheets_Line:FuncId×Fx:=(92,mkFx k92 [] ⟨[],[]⟩)
def z_sheets_Ends:FuncId×Fx:=(93,mkFx k93 [] ⟨[(8,tqr)],[]⟩)
def z_sheets_Units:FuncId×Fx:=(81,mkFx k81 [(18,.f itUB [((.b 1),(.p (.own tqf) .u))])] ⟨[(17,tqf)],[]⟩)
def z_slices_Clip_sheets_Unit:FuncId×Fx:=(82,mkFx k82 [] ⟨[],[]⟩)
def z_sheets_Sheet_all:FuncId×Fx:=(115,mkFx k115 [] ⟨[],[]⟩)
def z_segments_place:FuncId×Fx:=(94,mkFx k94 [] ⟨[],[]⟩)
def z_segments_lies:FuncId×Fx:=(58,mkFx k58 [] ⟨[],[]⟩)
def z_segments_pieces:FuncId×Fx:=(51,mkFx k51 [(10,.l [((.t 20),rqd),((.o 2),(.mp tql tqm))])] ⟨[(17,(.prod tql tqm))],[]⟩)
def z_segments_ordinary:FuncId×Fx:=(64,mkFx k64 [] ⟨[],[]⟩)
def z_patterns_Check_c1:FuncId×Fx:=(87,mkFx k87 [] ⟨[],[]⟩)
def z_patterns_isKind:FuncId×Fx:=(88,mkFx k88 [] ⟨[],[]⟩)
def z_slices_IndexFunc_patterns_Crease:FuncId×Fx:=(127,mkFx k127 [(6,.l [((.t 8),rqd)])] ⟨[],[]⟩)
def z_slices_ContainsFunc_patterns_Crease:FuncId×Fx:=(86,mkFx k86 [] ⟨[],[]⟩)
def z_patterns_order:FuncId×Fx:=(91,mkFx k91 [] ⟨[],[]⟩)
def z_patterns_Check:FuncId×Fx:=(57,mkFx k57 [(24,.l [((.t 21),rqd)]),(49,.l [((.t 8),rqd)])] ⟨[],[]⟩)
def z_patterns_Crease_unit:FuncId×Fx:=(90,mkFx k90 [] ⟨[],[]⟩)
def z_segments_Of:FuncId×Fx:=(35,mkFx k35 [(18,.l [((.t 5),(.own tqh)),((.t 27),rqd)]),(39,.l [((.t 5),(.d (.sl tqh))),((.t 10),(.own tqh))]),(55,.l [((.t 12),rqd),((.t 65),rqd),((.b 4),(.d (.prod tqb (.prod tqb (.prod tqa tqc)))))])] ⟨[(23,tqh),(51,tqh),(96,tqh)],[]⟩)
def z_slices_Clip_segments_Segment:FuncId×Fx:=(61,mkFx k61 [] ⟨[],[]⟩)
def z_segments_Pattern:FuncId×Fx:=(34,mkFx k34 [(22,.l [((.t 10),(.own tqj)),((.t 28),rqd),((.b 1),(.p rqd (.p rqd .nl))),((.o 3),(.mp tqf tqb))]),(46,.l [((.t 10),(.own tqj)),((.t 46),rqd),((.b 1),(.p rqd (.p rqd .nl))),((.o 3),(.mp tqf tqb))])] ⟨[(68,tqj),(25,(.prod tqf tqb))],[]⟩)
def z_segments_units:FuncId×Fx:=(52,mkFx k52 [(16,.l [((.t 6),(.own tqf)),((.t 7),rqd)])] ⟨[(40,tqf)],[]⟩)
def z_slices_Clip_patterns_Crease:FuncId×Fx:=(56,mkFx k56 [] ⟨[],[]⟩)
def z_ref06_Differ:FuncId×Fx:=(26,mkFx k26 [(14,.l [((.t 5),rqd)])] ⟨[],[]⟩)
def z_istrconv_numDigits:FuncId×Fx:=(141,mkFx k141 [] ⟨[],[]⟩)
def z_istrconv_bool2_int:FuncId×Fx:=(176,mkFx k176 [] ⟨[],[]⟩)
def z_strconv_Itoa:FuncId×Fx:=(37,mkFx k37 [] ⟨[],[]⟩)
def z_istrconv_Itoa:FuncId×Fx:=(63,mkFx k63 [] ⟨[],[]⟩)
def z_istrconv_FormatInt:FuncId×Fx:=(97,mkFx k97 [(21,.j [] [((.t 6),(.d tqq))])] ⟨[(5,(.arr 24 tqb))],[]⟩)
def z_istrconv_small:FuncId×Fx:=(140,mkFx k140 [] ⟨[],[]⟩)
def z_istrconv_formatBase10:FuncId×Fx:=(142,mkFx k142 [(4,.l [((.t 1),(.d tqq)),((.t 4),rqd),((.bm 1),(.d (.arr 24 tqb)))]),(36,.j [(.bm 1)] [((.t 4),rqd),((.t 12),(.d (.int .u32))),((.bm 1),(.d (.arr 24 tqb)))])] ⟨[],[]⟩)
def z_lines_Text:FuncId×Fx:=(65,mkFx k65 [] ⟨[],[]⟩)
def z_segments_Text:FuncId×Fx:=(38,mkFx k38 [] ⟨[],[]⟩)
def z_ref01_Decimal:FuncId×Fx:=(27,mkFx k27 [] ⟨[],[]⟩)
def z_segments_Parse:FuncId×Fx:=(47,mkFx k47 [] ⟨[],[]⟩)
def z_files_ended:FuncId×Fx:=(39,mkFx k39 [] ⟨[],[]⟩)
def z_strings_CutSuffix:FuncId×Fx:=(44,mkFx k44 [] ⟨[],[]⟩)
def z_internal_stringslite_CutSuffix:FuncId×Fx:=(69,mkFx k69 [] ⟨[],[]⟩)
def z_internal_stringslite_HasSuffix:FuncId×Fx:=(103,mkFx k103 [] ⟨[],[]⟩)
def z_files_numbers:FuncId×Fx:=(46,mkFx k46 [(16,.l [((.t 6),(.own tqa)),((.t 30),rqd)])] ⟨[],[]⟩)
def z_files_divide:FuncId×Fx:=(32,mkFx k32 [(10,.f itLn [((.b 1),(.d (.prod tqa .unit))),((.b 0),(.p rqd (.p rqd (.p (.own tqh) (.p rqd rqd))))),((.b 2),(.d (.prod .bool .unit))),((.b 3),(.d (.prod tqa .unit)))])] ⟨[(79,tqh)],[]⟩)
def z_strings_Lines:FuncId×Fx:=(50,mkFx k50 [] ⟨[],[]⟩)
def z_files_Decode:FuncId×Fx:=(18,mkFx k18 [(54,.l [((.t 70),rqd),((.b 0),(.p rqd (.p rqd .nl)))])] ⟨[],[]⟩)
def z_ref11_Sum:FuncId×Fx:=(12,mkFx k12 [(8,.l [((.t 3),rqd),((.t 4),rqd)])] ⟨[],[]⟩)
def z_ref11_Ended:FuncId×Fx:=(14,mkFx k14 [] ⟨[],[]⟩)
def z_law11_lives:FuncId×Fx:=(13,mkFx k13 [(12,.j [] [((.t 61),rqp)])] ⟨[(19,tqj)],[]⟩)
def z_law11_FilesSum:FuncId×Fx:=(3,mkFx k3 [] ⟨[],[]⟩)
end
end Go.Vm.X
