/-
  The contracts of the program's functions, one after another. (Printed by a program.)
-/
import Derived.Test.YtccefhabickfiaaGreatDoorQ7
import Derived.Test.YtccefhabickfiaaGreatDoorSM
set_option linter.unusedSimpArgs false
set_option linter.unusedVariables false
set_option linter.unusedSectionVars false
set_option linter.unnecessarySimpa false
namespace Go.Proofs.YtccefhabickfiaaGreatDoor
namespace Vm
open Go Go.Vm Go.Vm.W Go.Vm.X
noncomputable section
set_option maxRecDepth 100000
theorem gok (mx:Int):GRel (BB mx) nu0 GG:=gok_of (B:=BB mx) (es:=ex mx++es) (H0_eq mx).symm (l:=GM) (by kernel_rfl) (by kernel_rfl)
abbrev OK (mx:Int) (l:Nat) (t:TE):Prop:=OKs (BB mx) (told mx) prog l [t]
abbrev CK (mx:Int) (x:FuncId×Fx):Prop:=(∀vs,told mx x.1 vs=none)∧prog.get x.1=some x.2.cfn
theorem c_law11_FilesSum (mx:Int):CK mx z_law11_FilesSum:=⟨fun _=>rfl,by kernel_rfl⟩
theorem c_ref11_Sum (mx:Int):CK mx z_ref11_Sum:=⟨fun _=>rfl,by kernel_rfl⟩
theorem c_law11_lives (mx:Int):CK mx z_law11_lives:=⟨fun _=>rfl,by kernel_rfl⟩
theorem c_ref11_Ended (mx:Int):CK mx z_ref11_Ended:=⟨fun _=>rfl,by kernel_rfl⟩
theorem c_files_Decode (mx:Int):CK mx z_files_Decode:=⟨fun _=>rfl,by kernel_rfl⟩
theorem c_ref06_Differ (mx:Int):CK mx z_ref06_Differ:=⟨fun _=>rfl,by kernel_rfl⟩
theorem c_ref01_Decimal (mx:Int):CK mx z_ref01_Decimal:=⟨fun _=>rfl,by kernel_rfl⟩
theorem c_files_divide (mx:Int):CK mx z_files_divide:=⟨fun _=>rfl,by kernel_rfl⟩
theorem c_sheets_Check (mx:Int):CK mx z_sheets_Check:=⟨fun _=>rfl,by kernel_rfl⟩
theorem c_segments_Pattern (mx:Int):CK mx z_segments_Pattern:=⟨fun _=>rfl,by kernel_rfl⟩
theorem c_segments_Of (mx:Int):CK mx z_segments_Of:=⟨fun _=>rfl,by kernel_rfl⟩
theorem c_strconv_Itoa (mx:Int):CK mx z_strconv_Itoa:=⟨fun _=>rfl,by kernel_rfl⟩
theorem c_segments_Text (mx:Int):CK mx z_segments_Text:=⟨fun _=>rfl,by kernel_rfl⟩
theorem c_files_ended (mx:Int):CK mx z_files_ended:=⟨fun _=>rfl,by kernel_rfl⟩
theorem c_strings_CutSuffix (mx:Int):CK mx z_strings_CutSuffix:=⟨fun _=>rfl,by kernel_rfl⟩
theorem c_files_numbers (mx:Int):CK mx z_files_numbers:=⟨fun _=>rfl,by kernel_rfl⟩
theorem c_segments_Parse (mx:Int):CK mx z_segments_Parse:=⟨fun _=>rfl,by kernel_rfl⟩
theorem c_strings_Lines (mx:Int):CK mx z_strings_Lines:=⟨fun _=>rfl,by kernel_rfl⟩
theorem c_segments_pieces (mx:Int):CK mx z_segments_pieces:=⟨fun _=>rfl,by kernel_rfl⟩
theorem c_segments_units (mx:Int):CK mx z_segments_units:=⟨fun _=>rfl,by kernel_rfl⟩
theorem c_slices_Clip_patterns_Crease (mx:Int):CK mx z_slices_Clip_patterns_Crease:=⟨fun _=>rfl,by kernel_rfl⟩
theorem c_patterns_Check (mx:Int):CK mx z_patterns_Check:=⟨fun _=>rfl,by kernel_rfl⟩
theorem c_segments_lies (mx:Int):CK mx z_segments_lies:=⟨fun _=>rfl,by kernel_rfl⟩
theorem c_slices_Clip_segments_Segment (mx:Int):CK mx z_slices_Clip_segments_Segment:=⟨fun _=>rfl,by kernel_rfl⟩
theorem c_istrconv_Itoa (mx:Int):CK mx z_istrconv_Itoa:=⟨fun _=>rfl,by kernel_rfl⟩
theorem c_segments_ordinary (mx:Int):CK mx z_segments_ordinary:=⟨fun _=>rfl,by kernel_rfl⟩
theorem c_lines_Text (mx:Int):CK mx z_lines_Text:=⟨fun _=>rfl,by kernel_rfl⟩
theorem c_internal_stringslite_CutSuffix (mx:Int):CK mx z_internal_stringslite_CutSuffix:=⟨fun _=>rfl,by kernel_rfl⟩
theorem c_sheets_Units (mx:Int):CK mx z_sheets_Units:=⟨fun _=>rfl,by kernel_rfl⟩
theorem c_slices_Clip_sheets_Unit (mx:Int):CK mx z_slices_Clip_sheets_Unit:=⟨fun _=>rfl,by kernel_rfl⟩
theorem c_slices_ContainsFunc_patterns_Crease (mx:Int):CK mx z_slices_ContainsFunc_patterns_Crease:=⟨fun _=>rfl,by kernel_rfl⟩
theorem c_patterns_Check_c1 (mx:Int):CK mx z_patterns_Check_c1:=⟨fun _=>rfl,by kernel_rfl⟩
theorem c_patterns_isKind (mx:Int):CK mx z_patterns_isKind:=⟨fun _=>rfl,by kernel_rfl⟩
theorem c_sheets_Name (mx:Int):CK mx z_sheets_Name:=⟨fun _=>rfl,by kernel_rfl⟩
theorem c_patterns_Crease_unit (mx:Int):CK mx z_patterns_Crease_unit:=⟨fun _=>rfl,by kernel_rfl⟩
theorem c_patterns_order (mx:Int):CK mx z_patterns_order:=⟨fun _=>rfl,by kernel_rfl⟩
theorem c_sheets_Line (mx:Int):CK mx z_sheets_Line:=⟨fun _=>rfl,by kernel_rfl⟩
theorem c_sheets_Ends (mx:Int):CK mx z_sheets_Ends:=⟨fun _=>rfl,by kernel_rfl⟩
theorem c_segments_place (mx:Int):CK mx z_segments_place:=⟨fun _=>rfl,by kernel_rfl⟩
theorem c_istrconv_FormatInt (mx:Int):CK mx z_istrconv_FormatInt:=⟨fun _=>rfl,by kernel_rfl⟩
theorem c_lines_Check (mx:Int):CK mx z_lines_Check:=⟨fun _=>rfl,by kernel_rfl⟩
theorem c_internal_stringslite_HasSuffix (mx:Int):CK mx z_internal_stringslite_HasSuffix:=⟨fun _=>rfl,by kernel_rfl⟩
theorem c_sheets_Sheet_all (mx:Int):CK mx z_sheets_Sheet_all:=⟨fun _=>rfl,by kernel_rfl⟩
theorem c_slices_IndexFunc_patterns_Crease (mx:Int):CK mx z_slices_IndexFunc_patterns_Crease:=⟨fun _=>rfl,by kernel_rfl⟩
theorem c_sheets_Neighbour (mx:Int):CK mx z_sheets_Neighbour:=⟨fun _=>rfl,by kernel_rfl⟩
theorem c_sheets_named (mx:Int):CK mx z_sheets_named:=⟨fun _=>rfl,by kernel_rfl⟩
theorem c_cells_Line (mx:Int):CK mx z_cells_Line:=⟨fun _=>rfl,by kernel_rfl⟩
theorem c_cells_Corners (mx:Int):CK mx z_cells_Corners:=⟨fun _=>rfl,by kernel_rfl⟩
theorem c_istrconv_small (mx:Int):CK mx z_istrconv_small:=⟨fun _=>rfl,by kernel_rfl⟩
theorem c_istrconv_numDigits (mx:Int):CK mx z_istrconv_numDigits:=⟨fun _=>rfl,by kernel_rfl⟩
theorem c_istrconv_formatBase10 (mx:Int):CK mx z_istrconv_formatBase10:=⟨fun _=>rfl,by kernel_rfl⟩
theorem c_sheets_Count (mx:Int):CK mx z_sheets_Count:=⟨fun _=>rfl,by kernel_rfl⟩
theorem c_sheets_Cell (mx:Int):CK mx z_sheets_Cell:=⟨fun _=>rfl,by kernel_rfl⟩
theorem c_cells_Neighbour (mx:Int):CK mx z_cells_Neighbour:=⟨fun _=>rfl,by kernel_rfl⟩
theorem c_sheets_Id (mx:Int):CK mx z_sheets_Id:=⟨fun _=>rfl,by kernel_rfl⟩
theorem c_sheets_Sheet_cell (mx:Int):CK mx z_sheets_Sheet_cell:=⟨fun _=>rfl,by kernel_rfl⟩
theorem c_cells_Check (mx:Int):CK mx z_cells_Check:=⟨fun _=>rfl,by kernel_rfl⟩
theorem c_istrconv_bool2_int (mx:Int):CK mx z_istrconv_bool2_int:=⟨fun _=>rfl,by kernel_rfl⟩
theorem c_sheets_Sheet_has (mx:Int):CK mx z_sheets_Sheet_has:=⟨fun _=>rfl,by kernel_rfl⟩
theorem o_sheets_Check (mx:Int):OK mx 1 (t_sheets_Check fuel):=fx_ok (m:=0) (d:=0) OKs_nil CodeOK_nil (gok mx) (c_sheets_Check mx) (fun a=>sheets_Check_eq fuel a)
theorem o_sheets_Cell (mx:Int):OK mx 3 (t_sheets_Cell fuel):=fx_ok (m:=1) (d:=1) (OKs_cons (OKs_up (o_sheets_Check mx) (Nat.le_of_ble_eq_true rfl)) OKs_nil) (CodeOK_cons (c_sheets_Sheet_cell mx) (CodeOK_cons (c_sheets_Sheet_has mx) CodeOK_nil)) (gok mx) (c_sheets_Cell mx) (fun a=>sheets_Cell_eq fuel a)
theorem o_sheets_Id (mx:Int):OK mx 3 (t_sheets_Id fuel):=fx_ok (m:=1) (d:=1) (OKs_cons (OKs_up (o_sheets_Check mx) (Nat.le_of_ble_eq_true rfl)) OKs_nil) (CodeOK_cons (c_cells_Check mx) CodeOK_nil) (gok mx) (c_sheets_Id mx) (fun a=>sheets_Id_eq fuel a)
theorem o_cells_Neighbour (mx:Int):OK mx 2 (t_cells_Neighbour fuel):=fx_ok (m:=0) (d:=1) OKs_nil (CodeOK_cons (c_cells_Check mx) CodeOK_nil) (gok mx) (c_cells_Neighbour mx) (fun a=>cells_Neighbour_eq fuel a)
theorem o_sheets_Neighbour (mx:Int):OK mx 4 (t_sheets_Neighbour fuel):=fx_ok (m:=3) (d:=0) (OKs_cons (OKs_up (o_sheets_Cell mx) (Nat.le_of_ble_eq_true rfl)) (OKs_cons (OKs_up (o_cells_Neighbour mx) (Nat.le_of_ble_eq_true rfl)) (OKs_cons (OKs_up (o_sheets_Id mx) (Nat.le_of_ble_eq_true rfl)) OKs_nil))) CodeOK_nil (gok mx) (c_sheets_Neighbour mx) (fun a=>sheets_Neighbour_eq fuel a)
theorem o_sheets_Name (mx:Int):OK mx 5 (t_sheets_Name fuel):=fx_ok (m:=4) (d:=0) (OKs_cons (OKs_up (o_sheets_Neighbour mx) (Nat.le_of_ble_eq_true rfl)) OKs_nil) CodeOK_nil (gok mx) (c_sheets_Name mx) (fun a=>sheets_Name_eq fuel a)
theorem o_sheets_Count (mx:Int):OK mx 2 (t_sheets_Count fuel):=fx_ok (m:=1) (d:=0) (OKs_cons (OKs_up (o_sheets_Check mx) (Nat.le_of_ble_eq_true rfl)) OKs_nil) CodeOK_nil (gok mx) (c_sheets_Count mx) (fun a=>sheets_Count_eq fuel a)
theorem o_sheets_named (mx:Int):OK mx 7 (t_sheets_named fuel):=fx_ok (m:=5) (d:=1) (OKs_cons (OKs_up (o_sheets_Check mx) (Nat.le_of_ble_eq_true rfl)) (OKs_cons (OKs_up (o_sheets_Name mx) (Nat.le_of_ble_eq_true rfl)) OKs_nil)) (CodeOK_cons (c_sheets_Sheet_cell mx) CodeOK_nil) (gok mx) (c_sheets_named mx) (fun a=>sheets_named_eq fuel a)
theorem o_cells_Line (mx:Int):OK mx 2 (t_cells_Line fuel):=fx_ok (m:=0) (d:=1) OKs_nil (CodeOK_cons (c_lines_Check mx) (CodeOK_cons (c_cells_Check mx) CodeOK_nil)) (gok mx) (c_cells_Line mx) (fun a=>cells_Line_eq fuel a)
theorem o_cells_Corners (mx:Int):OK mx 2 (t_cells_Corners fuel):=fx_ok (m:=0) (d:=1) OKs_nil (CodeOK_cons (c_cells_Check mx) CodeOK_nil) (gok mx) (c_cells_Corners mx) (fun a=>cells_Corners_eq fuel a)
theorem o_sheets_Line (mx:Int):OK mx 8 (t_sheets_Line fuel):=fx_ok (m:=7) (d:=0) (OKs_cons (OKs_up (o_sheets_named mx) (Nat.le_of_ble_eq_true rfl)) (OKs_cons (OKs_up (o_cells_Line mx) (Nat.le_of_ble_eq_true rfl)) OKs_nil)) CodeOK_nil (gok mx) (c_sheets_Line mx) (fun a=>sheets_Line_eq fuel a)
theorem o_sheets_Ends (mx:Int):OK mx 8 (t_sheets_Ends fuel):=fx_ok (m:=7) (d:=0) (OKs_cons (OKs_up (o_sheets_named mx) (Nat.le_of_ble_eq_true rfl)) (OKs_cons (OKs_up (o_cells_Corners mx) (Nat.le_of_ble_eq_true rfl)) OKs_nil)) CodeOK_nil (gok mx) (c_sheets_Ends mx) (fun a=>sheets_Ends_eq fuel a)
theorem o_sheets_Units (mx:Int):OK mx 3 (t_sheets_Units fuel):=fx_ok (m:=1) (d:=1) (OKs_cons (OKs_up (o_sheets_Check mx) (Nat.le_of_ble_eq_true rfl)) OKs_nil) (CodeOK_cons (c_slices_Clip_sheets_Unit mx) (CodeOK_cons (c_sheets_Sheet_all mx) CodeOK_nil)) (gok mx) (c_sheets_Units mx) (fun a=>sheets_Units_eq fuel a)
theorem o_segments_place (mx:Int):OK mx 1 (t_segments_place fuel):=fx_ok (m:=0) (d:=0) OKs_nil CodeOK_nil (gok mx) (c_segments_place mx) (fun a=>segments_place_eq fuel a)
theorem o_segments_lies (mx:Int):OK mx 9 (t_segments_lies fuel):=fx_ok (m:=8) (d:=0) (OKs_cons (OKs_up (o_sheets_Line mx) (Nat.le_of_ble_eq_true rfl)) (OKs_cons (OKs_up (o_sheets_Ends mx) (Nat.le_of_ble_eq_true rfl)) (OKs_cons (OKs_up (o_segments_place mx) (Nat.le_of_ble_eq_true rfl)) OKs_nil))) CodeOK_nil (gok mx) (c_segments_lies mx) (fun a=>segments_lies_eq fuel a)
theorem o_segments_pieces (mx:Int):OK mx 10 (t_segments_pieces fuel):=fx_ok (m:=9) (d:=0) (OKs_cons (OKs_up (o_segments_lies mx) (Nat.le_of_ble_eq_true rfl)) (OKs_cons (OKs_up (o_sheets_Units mx) (Nat.le_of_ble_eq_true rfl)) OKs_nil)) CodeOK_nil (gok mx) (c_segments_pieces mx) (fun a=>segments_pieces_eq fuel a)
theorem o_lines_Check (mx:Int):OK mx 1 (t_lines_Check fuel):=fx_ok (m:=0) (d:=0) OKs_nil CodeOK_nil (gok mx) (c_lines_Check mx) (fun a=>lines_Check_eq fuel a)
theorem o_segments_ordinary (mx:Int):OK mx 2 (t_segments_ordinary fuel):=fx_ok (m:=1) (d:=0) (OKs_cons (OKs_up (o_lines_Check mx) (Nat.le_of_ble_eq_true rfl)) OKs_nil) CodeOK_nil (gok mx) (c_segments_ordinary mx) (fun a=>segments_ordinary_eq fuel a)
theorem o_slices_IndexFunc_patterns_Crease (mx:Int):OK mx 3 (t_slices_IndexFunc_patterns_Crease fuel):=fx_ok (m:=0) (d:=2) OKs_nil (CodeOK_cons (c_patterns_Check_c1 mx) (CodeOK_cons (c_patterns_isKind mx) CodeOK_nil)) (gok mx) (c_slices_IndexFunc_patterns_Crease mx) (fun a=>slices_IndexFunc_patterns_Crease_eq fuel a)
theorem o_slices_ContainsFunc_patterns_Crease (mx:Int):OK mx 4 (t_slices_ContainsFunc_patterns_Crease fuel):=fx_ok (m:=3) (d:=0) (OKs_cons (OKs_up (o_slices_IndexFunc_patterns_Crease mx) (Nat.le_of_ble_eq_true rfl)) OKs_nil) CodeOK_nil (gok mx) (c_slices_ContainsFunc_patterns_Crease mx) (fun a=>slices_ContainsFunc_patterns_Crease_eq fuel a)
theorem o_patterns_order (mx:Int):OK mx 1 (t_patterns_order fuel):=fx_ok (m:=0) (d:=0) OKs_nil CodeOK_nil (gok mx) (c_patterns_order mx) (fun a=>patterns_order_eq fuel a)
theorem o_patterns_Check (mx:Int):OK mx 7 (t_patterns_Check fuel):=fx_ok (m:=5) (d:=1) (OKs_cons (OKs_up (o_sheets_Check mx) (Nat.le_of_ble_eq_true rfl)) (OKs_cons (OKs_up (o_slices_ContainsFunc_patterns_Crease mx) (Nat.le_of_ble_eq_true rfl)) (OKs_cons (OKs_up (o_sheets_Name mx) (Nat.le_of_ble_eq_true rfl)) (OKs_cons (OKs_up (o_patterns_order mx) (Nat.le_of_ble_eq_true rfl)) OKs_nil)))) (CodeOK_cons (c_patterns_Crease_unit mx) CodeOK_nil) (gok mx) (c_patterns_Check mx) (fun a=>patterns_Check_eq fuel a)
theorem o_slices_SortFunc_segments_Segment (mx:Int):OKRs (BB mx) (told mx) prog 1 [⟨59,2,[(.row tqh),(.v (.fn 60))],[],slices_SortFunc_segments_Segment fuel⟩]:=tSortK_TR (t:=tSEG) rfl (fun L=>(sortC_perm cfG L).length_eq) (fun L h=>svK_enc rfl L h) (fun az g h=>memoOr_l h)
theorem o_slices_SortFunc_patterns_Crease (mx:Int):OKRs (BB mx) (told mx) prog 1 [⟨53,2,[(.row tqj),(.v (.fn 54))],[],slices_SortFunc_patterns_Crease fuel⟩]:=tSortK_TR (t:=tCRE) rfl (fun L=>(sortC_perm cfC L).length_eq) (fun L h=>svK_enc rfl L h) (fun az g h=>memoOr_r rfl (memoOr_l h))
theorem o_segments_Of (mx:Int):OK mx 11 (t_segments_Of fuel):=fxR_ok (m:=9) (d:=1) (OKs_cons (OKs_up (o_patterns_Check mx) (Nat.le_of_ble_eq_true rfl)) (OKs_cons (OKs_up (o_segments_lies mx) (Nat.le_of_ble_eq_true rfl)) OKs_nil)) (OKRs_cons (OKRs_up (o_slices_SortFunc_segments_Segment mx) (Nat.le_of_ble_eq_true rfl)) OKRs_nil) (CodeOK_cons (c_slices_Clip_segments_Segment mx) CodeOK_nil) (gok mx) (c_segments_Of mx) (fun a=>segments_Of_eq fuel a)
theorem o_segments_Pattern (mx:Int):OK mx 13 (t_segments_Pattern fuel):=fxR_ok (m:=10) (d:=2) (OKs_cons (OKs_up (o_sheets_Check mx) (Nat.le_of_ble_eq_true rfl)) (OKs_cons (OKs_up (o_segments_pieces mx) (Nat.le_of_ble_eq_true rfl)) (OKs_cons (OKs_up (o_segments_ordinary mx) (Nat.le_of_ble_eq_true rfl)) OKs_nil))) (OKRs_cons (OKRs_up (o_slices_SortFunc_patterns_Crease mx) (Nat.le_of_ble_eq_true rfl)) OKRs_nil) (CodeOK_cons (c_segments_units mx) (CodeOK_cons (c_slices_Clip_patterns_Crease mx) (CodeOK_cons (c_slices_Clip_sheets_Unit mx) CodeOK_nil))) (gok mx) (c_segments_Pattern mx) (fun a=>segments_Pattern_eq fuel a)
theorem o_ref06_Differ (mx:Int):OK mx 1 (t_ref06_Differ fuel):=fx_ok (m:=0) (d:=0) OKs_nil CodeOK_nil (gok mx) (c_ref06_Differ mx) (fun a=>ref06_Differ_eq fuel a)
theorem o0_sheets_Check (mx:Int):OKs (BB mx) mm0 prog 1 [t_sheets_Check fuel]:=fx_ok (m:=0) (d:=0) OKs_nil CodeOK_nil (gok mx) ⟨fun _=>rfl,(c_sheets_Check mx).2⟩ (fun a=>sheets_Check_eq fuel a)
theorem o0_sheets_Cell (mx:Int):OKs (BB mx) mm0 prog 3 [t_sheets_Cell fuel]:=fx_ok (m:=1) (d:=1) (OKs_cons (OKs_up (o0_sheets_Check mx) (Nat.le_of_ble_eq_true rfl)) OKs_nil) (CodeOK_cons ⟨fun _=>rfl,(c_sheets_Sheet_cell mx).2⟩ (CodeOK_cons ⟨fun _=>rfl,(c_sheets_Sheet_has mx).2⟩ CodeOK_nil)) (gok mx) ⟨fun _=>rfl,(c_sheets_Cell mx).2⟩ (fun a=>sheets_Cell_eq fuel a)
theorem o0_sheets_Id (mx:Int):OKs (BB mx) mm0 prog 3 [t_sheets_Id fuel]:=fx_ok (m:=1) (d:=1) (OKs_cons (OKs_up (o0_sheets_Check mx) (Nat.le_of_ble_eq_true rfl)) OKs_nil) (CodeOK_cons ⟨fun _=>rfl,(c_cells_Check mx).2⟩ CodeOK_nil) (gok mx) ⟨fun _=>rfl,(c_sheets_Id mx).2⟩ (fun a=>sheets_Id_eq fuel a)
theorem o0_cells_Neighbour (mx:Int):OKs (BB mx) mm0 prog 2 [t_cells_Neighbour fuel]:=fx_ok (m:=0) (d:=1) OKs_nil (CodeOK_cons ⟨fun _=>rfl,(c_cells_Check mx).2⟩ CodeOK_nil) (gok mx) ⟨fun _=>rfl,(c_cells_Neighbour mx).2⟩ (fun a=>cells_Neighbour_eq fuel a)
theorem o0_sheets_Neighbour (mx:Int):OKs (BB mx) mm0 prog 4 [t_sheets_Neighbour fuel]:=fx_ok (m:=3) (d:=0) (OKs_cons (OKs_up (o0_sheets_Cell mx) (Nat.le_of_ble_eq_true rfl)) (OKs_cons (OKs_up (o0_cells_Neighbour mx) (Nat.le_of_ble_eq_true rfl)) (OKs_cons (OKs_up (o0_sheets_Id mx) (Nat.le_of_ble_eq_true rfl)) OKs_nil))) CodeOK_nil (gok mx) ⟨fun _=>rfl,(c_sheets_Neighbour mx).2⟩ (fun a=>sheets_Neighbour_eq fuel a)
theorem o0_sheets_Name (mx:Int):OKs (BB mx) mm0 prog 5 [t_sheets_Name fuel]:=fx_ok (m:=4) (d:=0) (OKs_cons (OKs_up (o0_sheets_Neighbour mx) (Nat.le_of_ble_eq_true rfl)) OKs_nil) CodeOK_nil (gok mx) ⟨fun _=>rfl,(c_sheets_Name mx).2⟩ (fun a=>sheets_Name_eq fuel a)
theorem o0_sheets_named (mx:Int):OKs (BB mx) mm0 prog 7 [t_sheets_named fuel]:=fx_ok (m:=5) (d:=1) (OKs_cons (OKs_up (o0_sheets_Check mx) (Nat.le_of_ble_eq_true rfl)) (OKs_cons (OKs_up (o0_sheets_Name mx) (Nat.le_of_ble_eq_true rfl)) OKs_nil)) (CodeOK_cons ⟨fun _=>rfl,(c_sheets_Sheet_cell mx).2⟩ CodeOK_nil) (gok mx) ⟨fun _=>rfl,(c_sheets_named mx).2⟩ (fun a=>sheets_named_eq fuel a)
theorem o0_cells_Line (mx:Int):OKs (BB mx) mm0 prog 2 [t_cells_Line fuel]:=fx_ok (m:=0) (d:=1) OKs_nil (CodeOK_cons ⟨fun _=>rfl,(c_lines_Check mx).2⟩ (CodeOK_cons ⟨fun _=>rfl,(c_cells_Check mx).2⟩ CodeOK_nil)) (gok mx) ⟨fun _=>rfl,(c_cells_Line mx).2⟩ (fun a=>cells_Line_eq fuel a)
theorem o0_cells_Corners (mx:Int):OKs (BB mx) mm0 prog 2 [t_cells_Corners fuel]:=fx_ok (m:=0) (d:=1) OKs_nil (CodeOK_cons ⟨fun _=>rfl,(c_cells_Check mx).2⟩ CodeOK_nil) (gok mx) ⟨fun _=>rfl,(c_cells_Corners mx).2⟩ (fun a=>cells_Corners_eq fuel a)
theorem o0_sheets_Line (mx:Int):OKs (BB mx) mm0 prog 8 [t_sheets_Line fuel]:=fx_ok (m:=7) (d:=0) (OKs_cons (OKs_up (o0_sheets_named mx) (Nat.le_of_ble_eq_true rfl)) (OKs_cons (OKs_up (o0_cells_Line mx) (Nat.le_of_ble_eq_true rfl)) OKs_nil)) CodeOK_nil (gok mx) ⟨fun _=>rfl,(c_sheets_Line mx).2⟩ (fun a=>sheets_Line_eq fuel a)
theorem o0_sheets_Ends (mx:Int):OKs (BB mx) mm0 prog 8 [t_sheets_Ends fuel]:=fx_ok (m:=7) (d:=0) (OKs_cons (OKs_up (o0_sheets_named mx) (Nat.le_of_ble_eq_true rfl)) (OKs_cons (OKs_up (o0_cells_Corners mx) (Nat.le_of_ble_eq_true rfl)) OKs_nil)) CodeOK_nil (gok mx) ⟨fun _=>rfl,(c_sheets_Ends mx).2⟩ (fun a=>sheets_Ends_eq fuel a)
theorem o0_segments_place (mx:Int):OKs (BB mx) mm0 prog 1 [t_segments_place fuel]:=fx_ok (m:=0) (d:=0) OKs_nil CodeOK_nil (gok mx) ⟨fun _=>rfl,(c_segments_place mx).2⟩ (fun a=>segments_place_eq fuel a)
theorem o0_segments_lies (mx:Int):OKs (BB mx) mm0 prog 9 [t_segments_lies fuel]:=fx_ok (m:=8) (d:=0) (OKs_cons (OKs_up (o0_sheets_Line mx) (Nat.le_of_ble_eq_true rfl)) (OKs_cons (OKs_up (o0_sheets_Ends mx) (Nat.le_of_ble_eq_true rfl)) (OKs_cons (OKs_up (o0_segments_place mx) (Nat.le_of_ble_eq_true rfl)) OKs_nil))) CodeOK_nil (gok mx) ⟨fun _=>rfl,(c_segments_lies mx).2⟩ (fun a=>segments_lies_eq fuel a)
theorem o0_lines_Check (mx:Int):OKs (BB mx) mm0 prog 1 [t_lines_Check fuel]:=fx_ok (m:=0) (d:=0) OKs_nil CodeOK_nil (gok mx) ⟨fun _=>rfl,(c_lines_Check mx).2⟩ (fun a=>lines_Check_eq fuel a)
theorem o0_segments_ordinary (mx:Int):OKs (BB mx) mm0 prog 2 [t_segments_ordinary fuel]:=fx_ok (m:=1) (d:=0) (OKs_cons (OKs_up (o0_lines_Check mx) (Nat.le_of_ble_eq_true rfl)) OKs_nil) CodeOK_nil (gok mx) ⟨fun _=>rfl,(c_segments_ordinary mx).2⟩ (fun a=>segments_ordinary_eq fuel a)
theorem o0_slices_IndexFunc_patterns_Crease (mx:Int):OKs (BB mx) mm0 prog 3 [t_slices_IndexFunc_patterns_Crease fuel]:=fx_ok (m:=0) (d:=2) OKs_nil (CodeOK_cons ⟨fun _=>rfl,(c_patterns_Check_c1 mx).2⟩ (CodeOK_cons ⟨fun _=>rfl,(c_patterns_isKind mx).2⟩ CodeOK_nil)) (gok mx) ⟨fun _=>rfl,(c_slices_IndexFunc_patterns_Crease mx).2⟩ (fun a=>slices_IndexFunc_patterns_Crease_eq fuel a)
theorem o0_slices_ContainsFunc_patterns_Crease (mx:Int):OKs (BB mx) mm0 prog 4 [t_slices_ContainsFunc_patterns_Crease fuel]:=fx_ok (m:=3) (d:=0) (OKs_cons (OKs_up (o0_slices_IndexFunc_patterns_Crease mx) (Nat.le_of_ble_eq_true rfl)) OKs_nil) CodeOK_nil (gok mx) ⟨fun _=>rfl,(c_slices_ContainsFunc_patterns_Crease mx).2⟩ (fun a=>slices_ContainsFunc_patterns_Crease_eq fuel a)
theorem o0_patterns_order (mx:Int):OKs (BB mx) mm0 prog 1 [t_patterns_order fuel]:=fx_ok (m:=0) (d:=0) OKs_nil CodeOK_nil (gok mx) ⟨fun _=>rfl,(c_patterns_order mx).2⟩ (fun a=>patterns_order_eq fuel a)
theorem o0_patterns_Check (mx:Int):OKs (BB mx) mm0 prog 7 [t_patterns_Check fuel]:=fx_ok (m:=5) (d:=1) (OKs_cons (OKs_up (o0_sheets_Check mx) (Nat.le_of_ble_eq_true rfl)) (OKs_cons (OKs_up (o0_slices_ContainsFunc_patterns_Crease mx) (Nat.le_of_ble_eq_true rfl)) (OKs_cons (OKs_up (o0_sheets_Name mx) (Nat.le_of_ble_eq_true rfl)) (OKs_cons (OKs_up (o0_patterns_order mx) (Nat.le_of_ble_eq_true rfl)) OKs_nil)))) (CodeOK_cons ⟨fun _=>rfl,(c_patterns_Crease_unit mx).2⟩ CodeOK_nil) (gok mx) ⟨fun _=>rfl,(c_patterns_Check mx).2⟩ (fun a=>patterns_Check_eq fuel a)
theorem o0_slices_SortFunc_segments_Segment (mx:Int):OKRs (BB mx) mm0 prog 1 [⟨59,2,[(.row tqh),(.v (.fn 60))],[],slices_SortFunc_segments_Segment fuel⟩]:=tSortK_TR (t:=tSEG) rfl (fun L=>(sortC_perm cfG L).length_eq) (fun L h=>svK_enc rfl L h) (fun az g h=>memoOr_l h)
theorem o0_segments_Of (mx:Int):OKs (BB mx) mm0 prog 11 [t_segments_Of fuel]:=fxR_ok (m:=9) (d:=1) (OKs_cons (OKs_up (o0_patterns_Check mx) (Nat.le_of_ble_eq_true rfl)) (OKs_cons (OKs_up (o0_segments_lies mx) (Nat.le_of_ble_eq_true rfl)) OKs_nil)) (OKRs_cons (OKRs_up (o0_slices_SortFunc_segments_Segment mx) (Nat.le_of_ble_eq_true rfl)) OKRs_nil) (CodeOK_cons ⟨fun _=>rfl,(c_slices_Clip_segments_Segment mx).2⟩ CodeOK_nil) (gok mx) ⟨fun _=>rfl,(c_segments_Of mx).2⟩ (fun a=>segments_Of_eq fuel a)
theorem o0_math_bits_Len64 (mx:Int):OKs (BB mx) mm0 prog 1 [t_math_bits_Len64 fuel]:=tLen_TE (fun az g h=>memoOr_r rfl (memoOr_l h))
theorem o0_istrconv_log10Pow2 (mx:Int):OKs (BB mx) mm0 prog 1 [t_istrconv_log10Pow2 fuel]:=tLog_TE (fun az g h=>memoOr_r rfl (memoOr_r rfl (memoOr_l h)))
theorem o0_istrconv_numDigits (mx:Int):OKs (BB mx) mm0 prog 3 [t_istrconv_numDigits fuel]:=fx_ok (m:=1) (d:=1) (OKs_cons (OKs_up (o0_math_bits_Len64 mx) (Nat.le_of_ble_eq_true rfl)) (OKs_cons (OKs_up (o0_istrconv_log10Pow2 mx) (Nat.le_of_ble_eq_true rfl)) OKs_nil)) (CodeOK_cons ⟨fun _=>rfl,(c_istrconv_bool2_int mx).2⟩ CodeOK_nil) (gok mx) ⟨fun _=>rfl,(c_istrconv_numDigits mx).2⟩ (fun a=>istrconv_numDigits_eq fuel a)
theorem o0_strconv_Itoa (mx:Int):OKs (BB mx) mm0 prog 7 [t_strconv_Itoa fuel]:=fx_ok (m:=3) (d:=3) (OKs_cons (OKs_up (o0_istrconv_numDigits mx) (Nat.le_of_ble_eq_true rfl)) OKs_nil) (CodeOK_cons ⟨fun _=>rfl,(c_istrconv_Itoa mx).2⟩ (CodeOK_cons ⟨fun _=>rfl,(c_istrconv_FormatInt mx).2⟩ (CodeOK_cons ⟨fun _=>rfl,(c_istrconv_small mx).2⟩ (CodeOK_cons ⟨fun _=>rfl,(c_istrconv_formatBase10 mx).2⟩ CodeOK_nil)))) (gok mx) ⟨fun _=>rfl,(c_strconv_Itoa mx).2⟩ (fun a=>strconv_Itoa_eq fuel a)
theorem o0_lines_Text (mx:Int):OKs (BB mx) mm0 prog 8 [t_lines_Text fuel]:=fx_ok (m:=7) (d:=0) (OKs_cons (OKs_up (o0_strconv_Itoa mx) (Nat.le_of_ble_eq_true rfl)) (OKs_cons (OKs_up (o0_lines_Check mx) (Nat.le_of_ble_eq_true rfl)) OKs_nil)) CodeOK_nil (gok mx) ⟨fun _=>rfl,(c_lines_Text mx).2⟩ (fun a=>lines_Text_eq fuel a)
theorem o0_segments_Text (mx:Int):OKs (BB mx) mm0 prog 9 [t_segments_Text fuel]:=fx_ok (m:=8) (d:=0) (OKs_cons (OKs_up (o0_strconv_Itoa mx) (Nat.le_of_ble_eq_true rfl)) (OKs_cons (OKs_up (o0_segments_ordinary mx) (Nat.le_of_ble_eq_true rfl)) (OKs_cons (OKs_up (o0_lines_Text mx) (Nat.le_of_ble_eq_true rfl)) OKs_nil))) CodeOK_nil (gok mx) ⟨fun _=>rfl,(c_segments_Text mx).2⟩ (fun a=>segments_Text_eq fuel a)
theorem o0_files_Sum (mx:Int):OKs (BB mx) mm0 prog 1 [t_files_Sum fuel]:=tSum_TE (fun az g h=>memoOr_r rfl (memoOr_r rfl (memoOr_r rfl h)))
theorem o0_files_ended (mx:Int):OKs (BB mx) mm0 prog 8 [t_files_ended fuel]:=fx_ok (m:=7) (d:=0) (OKs_cons (OKs_up (o0_files_Sum mx) (Nat.le_of_ble_eq_true rfl)) (OKs_cons (OKs_up (o0_strconv_Itoa mx) (Nat.le_of_ble_eq_true rfl)) OKs_nil)) CodeOK_nil (gok mx) ⟨fun _=>rfl,(c_files_ended mx).2⟩ (fun a=>files_ended_eq fuel a)
theorem o_math_bits_Len64 (mx:Int):OKs (BB mx) (told mx) prog 1 [t_math_bits_Len64 fuel]:=tLen_TE (fun az g h=>memoOr_r rfl (memoOr_r rfl (memoOr_l h)))
theorem o_istrconv_log10Pow2 (mx:Int):OKs (BB mx) (told mx) prog 1 [t_istrconv_log10Pow2 fuel]:=tLog_TE (fun az g h=>memoOr_r rfl (memoOr_r rfl (memoOr_r rfl (memoOr_l h))))
theorem o_istrconv_numDigits (mx:Int):OK mx 3 (t_istrconv_numDigits fuel):=fx_ok (m:=1) (d:=1) (OKs_cons (OKs_up (o_math_bits_Len64 mx) (Nat.le_of_ble_eq_true rfl)) (OKs_cons (OKs_up (o_istrconv_log10Pow2 mx) (Nat.le_of_ble_eq_true rfl)) OKs_nil)) (CodeOK_cons (c_istrconv_bool2_int mx) CodeOK_nil) (gok mx) (c_istrconv_numDigits mx) (fun a=>istrconv_numDigits_eq fuel a)
theorem o_strconv_Itoa (mx:Int):OK mx 7 (t_strconv_Itoa fuel):=fx_ok (m:=3) (d:=3) (OKs_cons (OKs_up (o_istrconv_numDigits mx) (Nat.le_of_ble_eq_true rfl)) OKs_nil) (CodeOK_cons (c_istrconv_Itoa mx) (CodeOK_cons (c_istrconv_FormatInt mx) (CodeOK_cons (c_istrconv_small mx) (CodeOK_cons (c_istrconv_formatBase10 mx) CodeOK_nil)))) (gok mx) (c_strconv_Itoa mx) (fun a=>strconv_Itoa_eq fuel a)
theorem o_lines_Text (mx:Int):OK mx 8 (t_lines_Text fuel):=fx_ok (m:=7) (d:=0) (OKs_cons (OKs_up (o_strconv_Itoa mx) (Nat.le_of_ble_eq_true rfl)) (OKs_cons (OKs_up (o_lines_Check mx) (Nat.le_of_ble_eq_true rfl)) OKs_nil)) CodeOK_nil (gok mx) (c_lines_Text mx) (fun a=>lines_Text_eq fuel a)
theorem o_segments_Text (mx:Int):OK mx 9 (t_segments_Text fuel):=fx_ok (m:=8) (d:=0) (OKs_cons (OKs_up (o_strconv_Itoa mx) (Nat.le_of_ble_eq_true rfl)) (OKs_cons (OKs_up (o_segments_ordinary mx) (Nat.le_of_ble_eq_true rfl)) (OKs_cons (OKs_up (o_lines_Text mx) (Nat.le_of_ble_eq_true rfl)) OKs_nil))) CodeOK_nil (gok mx) (c_segments_Text mx) (fun a=>segments_Text_eq fuel a)
theorem or_ref01_Decimal (mx:Int):∀n,OKs (BB mx) (told mx) prog (0+n*1) [⟨27,[rqd],[rqk],ref01_Decimal_r fuel n⟩]
 | 0=>fun t ht n hn=>by
   rw[List.mem_singleton.1 ht]
   intro a r hr
   cases hr
 | n+1=>OKs_up (fx_ok (m:=0+n*1) (d:=0) (OKs_cons (or_ref01_Decimal mx n) OKs_nil) CodeOK_nil (gok mx) (c_ref01_Decimal mx) (fun a=>ref01_Decimal_eq fuel _ a)) (by omega)
theorem o_ref01_Decimal (mx:Int):OK mx 22 (t_ref01_Decimal fuel):=or_ref01_Decimal mx 22
theorem o_strings_Split (mx:Int):OKs (BB mx) (told mx) prog 1 [t_strings_Split fuel]:=tSplit_TE (fun az g h=>memoOr_r rfl (memoOr_r rfl (memoOr_r rfl (memoOr_r rfl (memoOr_l h)))))
theorem o_strconv_Atoi (mx:Int):OKs (BB mx) (told mx) prog 1 [t_strconv_Atoi fuel]:=tAtoi_TE (fun az g h=>memoOr_r rfl (memoOr_r rfl (memoOr_r rfl (memoOr_r rfl (memoOr_r rfl (memoOr_l h))))))
theorem o_strings_Index (mx:Int):OKs (BB mx) (told mx) prog 1 [t_strings_Index fuel]:=tIdx_TE (fun az g h=>memoOr_r rfl (memoOr_r rfl (memoOr_r rfl (memoOr_r rfl (memoOr_r rfl (memoOr_r rfl (memoOr_l h)))))))
theorem o_lines_Parse (mx:Int):OKs (BB mx) (told mx) prog 1 [t_lines_Parse fuel]:=tLP_TE (o0_lines_Text mx _ (List.mem_singleton.2 rfl) 8 (by decide)) (fun az g h=>memoOr_r rfl (memoOr_r rfl (memoOr_r rfl (memoOr_r rfl (memoOr_r rfl (memoOr_r rfl (memoOr_r rfl (memoOr_l h))))))))
theorem o_segments_Parse (mx:Int):OK mx 10 (t_segments_Parse fuel):=fx_ok (m:=9) (d:=0) (OKs_cons (OKs_up (o_segments_Text mx) (Nat.le_of_ble_eq_true rfl)) (OKs_cons (OKs_up (o_strings_Split mx) (Nat.le_of_ble_eq_true rfl)) (OKs_cons (OKs_up (o_strconv_Atoi mx) (Nat.le_of_ble_eq_true rfl)) (OKs_cons (OKs_up (o_lines_Parse mx) (Nat.le_of_ble_eq_true rfl)) (OKs_cons (OKs_up (o_strings_Index mx) (Nat.le_of_ble_eq_true rfl)) OKs_nil))))) CodeOK_nil (gok mx) (c_segments_Parse mx) (fun a=>segments_Parse_eq fuel a)
theorem o_files_Sum (mx:Int):OKs (BB mx) (told mx) prog 1 [t_files_Sum fuel]:=tSum_TE (fun az g h=>memoOr_r rfl (memoOr_r rfl (memoOr_r rfl (memoOr_r rfl (memoOr_r rfl (memoOr_r rfl (memoOr_r rfl (memoOr_r rfl (memoOr_l h)))))))))
theorem o_files_Encode (mx:Int):OKs (BB mx) (told mx) prog 1 [t_files_Encode fuel]:=tEnc_TE (o0_segments_Of mx _ (List.mem_singleton.2 rfl) 24 (by decide)) (o0_segments_Text mx _ (List.mem_singleton.2 rfl) 24 (by decide)) (o0_strconv_Itoa mx _ (List.mem_singleton.2 rfl) 24 (by decide)) (o0_files_ended mx _ (List.mem_singleton.2 rfl) 24 (by decide)) (fun az g h=>memoOr_r rfl (memoOr_r rfl (memoOr_r rfl (memoOr_r rfl (memoOr_r rfl (memoOr_r rfl (memoOr_r rfl (memoOr_r rfl (memoOr_r rfl (memoOr_r rfl (h)))))))))))
theorem o_strings_CutSuffix (mx:Int):OK mx 3 (t_strings_CutSuffix fuel):=fx_ok (m:=0) (d:=2) OKs_nil (CodeOK_cons (c_internal_stringslite_CutSuffix mx) (CodeOK_cons (c_internal_stringslite_HasSuffix mx) CodeOK_nil)) (gok mx) (c_strings_CutSuffix mx) (fun a=>strings_CutSuffix_eq fuel a)
theorem o_files_numbers (mx:Int):OK mx 8 (t_files_numbers fuel):=fx_ok (m:=7) (d:=0) (OKs_cons (OKs_up (o_strconv_Itoa mx) (Nat.le_of_ble_eq_true rfl)) (OKs_cons (OKs_up (o_strings_Split mx) (Nat.le_of_ble_eq_true rfl)) (OKs_cons (OKs_up (o_strconv_Atoi mx) (Nat.le_of_ble_eq_true rfl)) OKs_nil))) CodeOK_nil (gok mx) (c_files_numbers mx) (fun a=>files_numbers_eq fuel a)
theorem o_files_divide (mx:Int):OK mx 12 (t_files_divide fuel):=fx_ok (m:=10) (d:=1) (OKs_cons (OKs_up (o_strings_CutSuffix mx) (Nat.le_of_ble_eq_true rfl)) (OKs_cons (OKs_up (o_files_numbers mx) (Nat.le_of_ble_eq_true rfl)) (OKs_cons (OKs_up (o_segments_Parse mx) (Nat.le_of_ble_eq_true rfl)) OKs_nil))) (CodeOK_cons (c_strings_Lines mx) CodeOK_nil) (gok mx) (c_files_divide mx) (fun a=>files_divide_eq fuel a)
theorem o_files_Decode (mx:Int):OK mx 14 (t_files_Decode fuel):=fx_ok (m:=13) (d:=0) (OKs_cons (OKs_up (o_files_Sum mx) (Nat.le_of_ble_eq_true rfl)) (OKs_cons (OKs_up (o_files_divide mx) (Nat.le_of_ble_eq_true rfl)) (OKs_cons (OKs_up (o_sheets_Check mx) (Nat.le_of_ble_eq_true rfl)) (OKs_cons (OKs_up (o_segments_Pattern mx) (Nat.le_of_ble_eq_true rfl)) (OKs_cons (OKs_up (o_segments_Of mx) (Nat.le_of_ble_eq_true rfl)) OKs_nil))))) CodeOK_nil (gok mx) (c_files_Decode mx) (fun a=>files_Decode_eq fuel a)
theorem o_ref11_Sum (mx:Int):OK mx 1 (t_ref11_Sum fuel):=fx_ok (m:=0) (d:=0) OKs_nil CodeOK_nil (gok mx) (c_ref11_Sum mx) (fun a=>ref11_Sum_eq fuel a)
theorem o_ref11_Ended (mx:Int):OK mx 23 (t_ref11_Ended fuel):=fx_ok (m:=22) (d:=0) (OKs_cons (OKs_up (o_ref11_Sum mx) (Nat.le_of_ble_eq_true rfl)) (OKs_cons (OKs_up (o_ref01_Decimal mx) (Nat.le_of_ble_eq_true rfl)) OKs_nil)) CodeOK_nil (gok mx) (c_ref11_Ended mx) (fun a=>ref11_Ended_eq fuel a)
theorem o_law11_lives (mx:Int):OK mx 24 (t_law11_lives fuel):=fx_ok (m:=23) (d:=0) (OKs_cons (OKs_up (o_files_Sum mx) (Nat.le_of_ble_eq_true rfl)) (OKs_cons (OKs_up (o_ref11_Ended mx) (Nat.le_of_ble_eq_true rfl)) (OKs_cons (OKs_up (o_files_Decode mx) (Nat.le_of_ble_eq_true rfl)) (OKs_cons (OKs_up (o_files_Encode mx) (Nat.le_of_ble_eq_true rfl)) (OKs_cons (OKs_up (o_ref06_Differ mx) (Nat.le_of_ble_eq_true rfl)) OKs_nil))))) CodeOK_nil (gok mx) (c_law11_lives mx) (fun a=>law11_lives_eq fuel a)
theorem o_law11_FilesSum (mx:Int):OK mx 25 (t_law11_FilesSum fuel):=fx_ok (m:=24) (d:=0) (OKs_cons (OKs_up (o_files_Sum mx) (Nat.le_of_ble_eq_true rfl)) (OKs_cons (OKs_up (o_ref11_Sum mx) (Nat.le_of_ble_eq_true rfl)) (OKs_cons (OKs_up (o_law11_lives mx) (Nat.le_of_ble_eq_true rfl)) OKs_nil))) CodeOK_nil (gok mx) (c_law11_FilesSum mx) (fun a=>law11_FilesSum_eq fuel a)
end
end Vm
end Go.Proofs.YtccefhabickfiaaGreatDoor
