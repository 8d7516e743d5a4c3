/-
  The inner machine for a sheet's units: sheets.Neighbour and sheets.Count, with their contracts. (Printed by a program.)
-/
import Derived.Test.YtonohffniohehaaGreatDoorProg
import Derived.Test.YtonohffniohehaaGreatDoorXG7
set_option linter.unusedSimpArgs false
set_option linter.unusedVariables false
set_option linter.unusedSectionVars false
set_option linter.unnecessarySimpa false
namespace Go.Vm.X.In
open Go Go.Vm Go.Vm.W Go.Vm.X Go.Proofs
noncomputable section
set_option maxRecDepth 100000
def gl:List Nat:=[2]
def nx0:Nat:=10
def quarters:List ((Int×Int)×(Int×(Int×(List (Int×(Int×Int))×((Int×Int)×(Int×Int)))))):=[((0, -1),(2,(0,([(0,(-1,2)),(0,(0,1)),(0,(0,3))],((0,0),(2,0)))))),((1,0),(1,(1,([(1,(0,3)),(0,(0,0)),(0,(0,2))],((2,2),(2,0)))))),((0,1),(2,(1,([(0,(1,0)),(0,(0,3)),(0,(0,1))],((2,2),(0,2)))))),((-1,0),(1,(0,([(-1,(0,1)),(0,(0,2)),(0,(0,0))],((0,0),(0,2))))))]
def GM:List GD:=[⟨2,(.prod (.prod (.int .i64) (.int .i64)) (.prod (.int .u8) (.prod (.int .i64) (.prod (.arr 3 (.prod (.int .i64) (.prod (.int .i64) (.int .u8)))) (.prod (.prod (.int .i64) (.int .i64)) (.prod (.int .i64) (.int .i64))))))),quarters⟩]
abbrev GG:Mem:=[(gB+2,.fix (.prod (.prod (.int .i64) (.int .i64)) (.prod (.int .u8) (.prod (.int .i64) (.prod (.arr 3 (.prod (.int .i64) (.prod (.int .i64) (.int .u8)))) (.prod (.prod (.int .i64) (.int .i64)) (.prod (.int .i64) (.int .i64))))))) 4 quarters)]
def es:List (Nat×List AV):=GM.map fun g=>(g.1,g.2.2.flatMap (cellsAV g.2.1))
def BI:Base:=⟨ofEnts es,nx0⟩
noncomputable def k31:CFn:=gk (cfn Tryz.prog gl Tryz.f31)
theorem k31_ok:cfn Tryz.prog gl Tryz.f31=some k31:=gk_ok (by kernel_rfl)
noncomputable def k91:CFn:=gk (cfn Tryz.prog gl Tryz.f91)
theorem k91_ok:cfn Tryz.prog gl Tryz.f91=some k91:=gk_ok (by kernel_rfl)
noncomputable def k130:CFn:=gk (cfn Tryz.prog gl Tryz.f130)
theorem k130_ok:cfn Tryz.prog gl Tryz.f130=some k130:=gk_ok (by kernel_rfl)
noncomputable def k133:CFn:=gk (cfn Tryz.prog gl Tryz.f133)
theorem k133_ok:cfn Tryz.prog gl Tryz.f133=some k133:=gk_ok (by kernel_rfl)
noncomputable def k134:CFn:=gk (cfn Tryz.prog gl Tryz.f134)
theorem k134_ok:cfn Tryz.prog gl Tryz.f134=some k134:=gk_ok (by kernel_rfl)
noncomputable def k135:CFn:=gk (cfn Tryz.prog gl Tryz.f135)
theorem k135_ok:cfn Tryz.prog gl Tryz.f135=some k135:=gk_ok (by kernel_rfl)
noncomputable def k136:CFn:=gk (cfn Tryz.prog gl Tryz.f136)
theorem k136_ok:cfn Tryz.prog gl Tryz.f136=some k136:=gk_ok (by kernel_rfl)
noncomputable def k137:CFn:=gk (cfn Tryz.prog gl Tryz.f137)
theorem k137_ok:cfn Tryz.prog gl Tryz.f137=some k137:=gk_ok (by kernel_rfl)
noncomputable def k159:CFn:=gk (cfn Tryz.prog gl Tryz.f159)
theorem k159_ok:cfn Tryz.prog gl Tryz.f159=some k159:=gk_ok (by kernel_rfl)
attribute [local irreducible] k31 k91 k130 k133 k134 k135 k136 k137 k159
noncomputable def kl:List (Nat×CFn):=[(31,k31),(91,k91),(130,k130),(133,k133),(134,k134),(135,k135),(136,k136),(137,k137),(159,k159)]
noncomputable def prog:Tr CFn:=ofK kl
theorem prog_ok:ProgOK Tryz.prog gl prog:=progOK_of noIts_ok ⟨⟨Tryz.f31,Tryz.func31,.inl k31_ok⟩,⟨Tryz.f91,Tryz.func91,.inl k91_ok⟩,⟨Tryz.f130,Tryz.func130,.inl k130_ok⟩,⟨Tryz.f133,Tryz.func133,.inl k133_ok⟩,⟨Tryz.f134,Tryz.func134,.inl k134_ok⟩,⟨Tryz.f135,Tryz.func135,.inl k135_ok⟩,⟨Tryz.f136,Tryz.func136,.inl k136_ok⟩,⟨Tryz.f137,Tryz.func137,.inl k137_ok⟩,⟨Tryz.f159,Tryz.func159,.inl k159_ok⟩,trivial⟩
theorem mixed:Tryz.prog.follows .mixedOrders=true:=by kernel_rfl
def z_sheets_Check:FuncId×Fx:=(31,mkFx k31 [] ⟨[],[]⟩)
def z_sheets_Cell:FuncId×Fx:=(133,mkFx k133 [] ⟨[],[]⟩)
def z_sheets_Sheet_cell:FuncId×Fx:=(136,mkFx k136 [] ⟨[],[]⟩)
def z_sheets_Sheet_has:FuncId×Fx:=(159,mkFx k159 [] ⟨[],[]⟩)
def z_sheets_Id:FuncId×Fx:=(135,mkFx k135 [] ⟨[],[]⟩)
def z_cells_Check:FuncId×Fx:=(137,mkFx k137 [] ⟨[],[]⟩)
def z_cells_Neighbour:FuncId×Fx:=(134,mkFx k134 [] ⟨[],[]⟩)
def z_sheets_Neighbour:FuncId×Fx:=(91,mkFx k91 [] ⟨[],[]⟩)
def z_sheets_Count:FuncId×Fx:=(130,mkFx k130 [] ⟨[],[]⟩)
def sheets_Check (N:Nat) (a:(Int×Int)):Option Int:=bif(decide (a.1<1)) then(some 1) else(bif(decide (a.2<1)) then(some 1) else(bif(decide ((256:Int)<a.1)) then(some 1) else(bif(decide ((256:Int)<a.2)) then(some 1) else(chk (i64b (a.1*a.2)) (bif(decide ((256:Int)< (a.1*a.2))) then(some 1) else(some 0))))))
abbrev t_sheets_Check (N:Nat):TE:=⟨31,[(.d (.prod (.int .i64) (.int .i64)))],[(.d (.int .i64))],sheets_Check N⟩
theorem sheets_Check_eq:∀N a,runX N (hnd N [] [] 0) GG z_sheets_Check.2 (t_sheets_Check N).ins (t_sheets_Check N).outs a=sheets_Check N a:=fun N a=>by kernel_rfl
def sheets_Cell (N:Nat) (a:((Int×Int)×Int)):Option ((Int×(Int×Int))×Int):=(sheets_Check N (a.1.1,a.1.2)).bind fun r1=>bif(decide (r1≠0)) then(some ((0,(0,0)),r1)) else(bif(decide ((0:Int)≤a.2)) then(chk (i64b (4*a.1.1)) (chk (i64b ((4*a.1.1)*a.1.2)) (bif(!(decide (a.2< ((4*a.1.1)*a.1.2)))) then(some ((0,(0,0)),7)) else(chk (decide (0≤a.2)&&decide (0< (4:Int))&&decide (IntKind.i64.wrap (a.2 / (4:Int))=a.2 / (4:Int))) (chk (decide (0≤(a.2 / 4))&&decide (0<a.1.1)) (chk (decide (0≤a.2)&&decide (0< (4:Int))&&decide (IntKind.i64.wrap (a.2 / (4:Int))=a.2 / (4:Int))) (chk (decide (0≤(a.2 / 4))&&decide (0<a.1.1)&&decide (IntKind.i64.wrap ((a.2 / 4) / a.1.1)=(a.2 / 4) / a.1.1)) (chk (decide (0≤a.2)&&decide (0< (4:Int))) (some ((((a.2 / 4)%a.1.1),(((a.2 / 4) / a.1.1),(IntKind.u8.wrap (a.2%4)))),0)))))))))) else(some ((0,(0,0)),7)))
abbrev t_sheets_Cell (N:Nat):TE:=⟨133,[(.d (.prod (.int .i64) (.int .i64))),(.d (.int .i64))],[(.d (.prod (.int .i64) (.prod (.int .i64) (.int .u8)))),(.d (.int .i64))],sheets_Cell N⟩
theorem sheets_Cell_eq:∀N a,runX N (hnd N [t_sheets_Check N] [z_sheets_Sheet_cell,z_sheets_Sheet_has] 1) GG z_sheets_Cell.2 (t_sheets_Cell N).ins (t_sheets_Cell N).outs a=sheets_Cell N a:=fun N a=>by kernel_rfl
def sheets_Id (N:Nat) (a:((Int×Int)×(Int×(Int×Int)))):Option (Int×Int):=(sheets_Check N (a.1.1,a.1.2)).bind fun r1=>bif(decide (r1≠0)) then(some (0,r1)) else(bif(decide (a.2.1< (-4096))) then(some (0,7)) else(bif(decide ((4096:Int)<a.2.1)) then(some (0,7)) else(bif(decide (a.2.2.1< (-4096))) then(some (0,7)) else(bif(decide ((4096:Int)<a.2.2.1)) then(some (0,7)) else(bif(decide ((3:Int)<a.2.2.2)) then(some (0,7)) else(bif(decide (a.2.1<0)) then(some (0,7)) else(bif(decide (a.1.1≤a.2.1)) then(some (0,7)) else(bif(decide (a.2.2.1<0)) then(some (0,7)) else(bif(decide (a.1.2≤a.2.2.1)) then(some (0,7)) else(chk (i64b (a.2.2.1*a.1.1)) (chk (i64b ((a.2.2.1*a.1.1)+a.2.1)) (chk (i64b (4* ((a.2.2.1*a.1.1)+a.2.1))) (chk (i64b a.2.2.2) (chk (i64b ((4* ((a.2.2.1*a.1.1)+a.2.1))+a.2.2.2)) (some (((4* ((a.2.2.1*a.1.1)+a.2.1))+a.2.2.2),0))))))))))))))))
abbrev t_sheets_Id (N:Nat):TE:=⟨135,[(.d (.prod (.int .i64) (.int .i64))),(.d (.prod (.int .i64) (.prod (.int .i64) (.int .u8))))],[(.d (.int .i64)),(.d (.int .i64))],sheets_Id N⟩
theorem sheets_Id_eq:∀N a,runX N (hnd N [t_sheets_Check N] [z_cells_Check] 1) GG z_sheets_Id.2 (t_sheets_Id N).ins (t_sheets_Id N).outs a=sheets_Id N a:=fun N a=>by kernel_rfl
def cells_Neighbour (N:Nat) (a:((Int×(Int×Int))×Int)):Option ((Int×(Int×Int))×Int):=bif(decide (a.1.1< (-4096))) then(some ((0,(0,0)),1)) else(bif(decide ((4096:Int)<a.1.1)) then(some ((0,(0,0)),1)) else(bif(decide (a.1.2.1< (-4096))) then(some ((0,(0,0)),1)) else(bif(decide ((4096:Int)<a.1.2.1)) then(some ((0,(0,0)),1)) else(bif(decide ((3:Int)<a.1.2.2)) then(some ((0,(0,0)),1)) else(bif(decide ((2:Int)<a.2)) then(some ((0,(0,0)),1)) else(chk (inb a.1.2.2 4) (chk (inb a.2 3) (chk (i64b (((quarters.getD a.1.2.2.toNat ((0,0),(0,(0,((List.replicate 3 (0,(0,0))),((0,0),(0,0))))))).2.2.2.1.getD a.2.toNat (0,(0,0))).1+a.1.1)) (chk (i64b (((quarters.getD a.1.2.2.toNat ((0,0),(0,(0,((List.replicate 3 (0,(0,0))),((0,0),(0,0))))))).2.2.2.1.getD a.2.toNat (0,(0,0))).2.1+a.1.2.1)) (bif(decide ((((quarters.getD a.1.2.2.toNat ((0,0),(0,(0,((List.replicate 3 (0,(0,0))),((0,0),(0,0))))))).2.2.2.1.getD a.2.toNat (0,(0,0))).1+a.1.1)< (-4096))) then(some ((0,(0,0)),3)) else(bif(decide ((4096:Int)< (((quarters.getD a.1.2.2.toNat ((0,0),(0,(0,((List.replicate 3 (0,(0,0))),((0,0),(0,0))))))).2.2.2.1.getD a.2.toNat (0,(0,0))).1+a.1.1))) then(some ((0,(0,0)),3)) else(bif(decide ((((quarters.getD a.1.2.2.toNat ((0,0),(0,(0,((List.replicate 3 (0,(0,0))),((0,0),(0,0))))))).2.2.2.1.getD a.2.toNat (0,(0,0))).2.1+a.1.2.1)< (-4096))) then(some ((0,(0,0)),3)) else(bif(decide ((4096:Int)< (((quarters.getD a.1.2.2.toNat ((0,0),(0,(0,((List.replicate 3 (0,(0,0))),((0,0),(0,0))))))).2.2.2.1.getD a.2.toNat (0,(0,0))).2.1+a.1.2.1))) then(some ((0,(0,0)),3)) else(bif(decide ((3:Int)< ((quarters.getD a.1.2.2.toNat ((0,0),(0,(0,((List.replicate 3 (0,(0,0))),((0,0),(0,0))))))).2.2.2.1.getD a.2.toNat (0,(0,0))).2.2)) then(some ((0,(0,0)),3)) else(some (((((quarters.getD a.1.2.2.toNat ((0,0),(0,(0,((List.replicate 3 (0,(0,0))),((0,0),(0,0))))))).2.2.2.1.getD a.2.toNat (0,(0,0))).1+a.1.1),((((quarters.getD a.1.2.2.toNat ((0,0),(0,(0,((List.replicate 3 (0,(0,0))),((0,0),(0,0))))))).2.2.2.1.getD a.2.toNat (0,(0,0))).2.1+a.1.2.1),((quarters.getD a.1.2.2.toNat ((0,0),(0,(0,((List.replicate 3 (0,(0,0))),((0,0),(0,0))))))).2.2.2.1.getD a.2.toNat (0,(0,0))).2.2)),0))))))))))))))))
abbrev t_cells_Neighbour (N:Nat):TE:=⟨134,[(.d (.prod (.int .i64) (.prod (.int .i64) (.int .u8)))),(.d (.int .u8))],[(.d (.prod (.int .i64) (.prod (.int .i64) (.int .u8)))),(.d (.int .i64))],cells_Neighbour N⟩
theorem cells_Neighbour_eq:∀N a,runX N (hnd N [] [z_cells_Check] 1) GG z_cells_Neighbour.2 (t_cells_Neighbour N).ins (t_cells_Neighbour N).outs a=cells_Neighbour N a:=fun N a=>by kernel_rfl
def sheets_Neighbour (N:Nat) (a:((Int×Int)×(Int×Int))):Option (Int×Int):=(sheets_Cell N ((a.1.1,a.1.2),a.2.1)).bind fun r1=>bif(decide (r1.2≠0)) then(some (0,r1.2)) else((cells_Neighbour N ((r1.1.1,(r1.1.2.1,r1.1.2.2)),a.2.2)).bind fun r2=>bif(decide (r2.2≠0)) then(some (0,1)) else((sheets_Id N ((a.1.1,a.1.2),(r2.1.1,(r2.1.2.1,r2.1.2.2)))).bind fun r3=>some (r3.1,r3.2)))
abbrev t_sheets_Neighbour (N:Nat):TE:=⟨91,[(.d (.prod (.int .i64) (.int .i64))),(.d (.int .i64)),(.d (.int .u8))],[(.d (.int .i64)),(.d (.int .i64))],sheets_Neighbour N⟩
theorem sheets_Neighbour_eq:∀N a,runX N (hnd N [t_sheets_Cell N,t_cells_Neighbour N,t_sheets_Id N] [] 0) GG z_sheets_Neighbour.2 (t_sheets_Neighbour N).ins (t_sheets_Neighbour N).outs a=sheets_Neighbour N a:=fun N a=>by kernel_rfl
def sheets_Count (N:Nat) (a:(Int×Int)):Option Int:=(sheets_Check N (a.1,a.2)).bind fun r1=>bif(decide (r1≠0)) then(some 0) else(chk (i64b (4*a.1)) (chk (i64b ((4*a.1)*a.2)) (some ((4*a.1)*a.2))))
abbrev t_sheets_Count (N:Nat):TE:=⟨130,[(.d (.prod (.int .i64) (.int .i64)))],[(.d (.int .i64))],sheets_Count N⟩
theorem sheets_Count_eq:∀N a,runX N (hnd N [t_sheets_Check N] [] 0) GG z_sheets_Count.2 (t_sheets_Count N).ins (t_sheets_Count N).outs a=sheets_Count N a:=fun N a=>by kernel_rfl
def none0:Memo:=fun _ _=>none
theorem none_ok:MemoOK Tryz.prog gl BI none0:=fun f az g h=>by cases h
theorem gok:GRel BI nu0 GG:=gok_of (B:=BI) (es:=es) rfl (l:=GM) (by kernel_rfl) (by kernel_rfl)
abbrev OK (l:Nat) (t:TE):Prop:=OKs (BI) none0 prog l [t]
abbrev CK (x:FuncId×Fx):Prop:=(∀vs,none0 x.1 vs=none)∧prog.get x.1=some x.2.cfn
theorem c_sheets_Check:CK z_sheets_Check:=⟨fun _=>rfl,by kernel_rfl⟩
theorem c_sheets_Neighbour:CK z_sheets_Neighbour:=⟨fun _=>rfl,by kernel_rfl⟩
theorem c_sheets_Count:CK z_sheets_Count:=⟨fun _=>rfl,by kernel_rfl⟩
theorem c_sheets_Cell:CK z_sheets_Cell:=⟨fun _=>rfl,by kernel_rfl⟩
theorem c_cells_Neighbour:CK z_cells_Neighbour:=⟨fun _=>rfl,by kernel_rfl⟩
theorem c_sheets_Id:CK z_sheets_Id:=⟨fun _=>rfl,by kernel_rfl⟩
theorem c_sheets_Sheet_cell:CK z_sheets_Sheet_cell:=⟨fun _=>rfl,by kernel_rfl⟩
theorem c_cells_Check:CK z_cells_Check:=⟨fun _=>rfl,by kernel_rfl⟩
theorem c_sheets_Sheet_has:CK z_sheets_Sheet_has:=⟨fun _=>rfl,by kernel_rfl⟩
theorem o_sheets_Check:OK 1 (t_sheets_Check fuel):=fx_ok (m:=0) (d:=0) OKs_nil CodeOK_nil gok c_sheets_Check (fun a=>sheets_Check_eq fuel a)
theorem o_sheets_Cell:OK 3 (t_sheets_Cell fuel):=fx_ok (m:=1) (d:=1) (OKs_cons (OKs_up o_sheets_Check (Nat.le_of_ble_eq_true rfl)) OKs_nil) (CodeOK_cons c_sheets_Sheet_cell (CodeOK_cons c_sheets_Sheet_has CodeOK_nil)) gok c_sheets_Cell (fun a=>sheets_Cell_eq fuel a)
theorem o_sheets_Id:OK 3 (t_sheets_Id fuel):=fx_ok (m:=1) (d:=1) (OKs_cons (OKs_up o_sheets_Check (Nat.le_of_ble_eq_true rfl)) OKs_nil) (CodeOK_cons c_cells_Check CodeOK_nil) gok c_sheets_Id (fun a=>sheets_Id_eq fuel a)
theorem o_cells_Neighbour:OK 2 (t_cells_Neighbour fuel):=fx_ok (m:=0) (d:=1) OKs_nil (CodeOK_cons c_cells_Check CodeOK_nil) gok c_cells_Neighbour (fun a=>cells_Neighbour_eq fuel a)
theorem o_sheets_Neighbour:OK 4 (t_sheets_Neighbour fuel):=fx_ok (m:=3) (d:=0) (OKs_cons (OKs_up o_sheets_Cell (Nat.le_of_ble_eq_true rfl)) (OKs_cons (OKs_up o_cells_Neighbour (Nat.le_of_ble_eq_true rfl)) (OKs_cons (OKs_up o_sheets_Id (Nat.le_of_ble_eq_true rfl)) OKs_nil))) CodeOK_nil gok c_sheets_Neighbour (fun a=>sheets_Neighbour_eq fuel a)
theorem o_sheets_Count:OK 2 (t_sheets_Count fuel):=fx_ok (m:=1) (d:=0) (OKs_cons (OKs_up o_sheets_Check (Nat.le_of_ble_eq_true rfl)) OKs_nil) CodeOK_nil gok c_sheets_Count (fun a=>sheets_Count_eq fuel a)
end
end Go.Vm.X.In
