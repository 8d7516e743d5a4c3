/-
  The inner machine for a sheet's units: sheets.Neighbour and sheets.Count, with their contracts. (Printed by a program.)
-/
import Derived.Test.YtccefhabickfiaaGreatDoorProg
import Derived.Test.YtccefhabickfiaaGreatDoorXG7
set_option linter.unusedSimpArgs false
set_option linter.unusedVariables false
set_option linter.unusedSectionVars false
set_option linter.unnecessarySimpa false
namespace Go.Vm.X.In
open Go Go.Vm Go.Vm.W Go.Vm.X Go.Proofs
noncomputable section
set_option maxRecDepth 100000
def gl:List Nat:=[1]
def nx0:Nat:=9
def quarters:List ((Int×Int)×(Int×(Int×(List (Int×(Int×Int))×((Int×Int)×(Int×Int)))))):=[((0, -1),(2,(0,([(0,(-1,2)),(0,(0,1)),(0,(0,3))],((0,0),(2,0)))))),((1,0),(1,(1,([(1,(0,3)),(0,(0,0)),(0,(0,2))],((2,2),(2,0)))))),((0,1),(2,(1,([(0,(1,0)),(0,(0,3)),(0,(0,1))],((2,2),(0,2)))))),((-1,0),(1,(0,([(-1,(0,1)),(0,(0,2)),(0,(0,0))],((0,0),(0,2))))))]
def GM:List GD:=[⟨1,(.prod (.prod (.int .i64) (.int .i64)) (.prod (.int .u8) (.prod (.int .i64) (.prod (.arr 3 (.prod (.int .i64) (.prod (.int .i64) (.int .u8)))) (.prod (.prod (.int .i64) (.int .i64)) (.prod (.int .i64) (.int .i64))))))),quarters⟩]
abbrev GG:Mem:=[(gB+1,.fix (.prod (.prod (.int .i64) (.int .i64)) (.prod (.int .u8) (.prod (.int .i64) (.prod (.arr 3 (.prod (.int .i64) (.prod (.int .i64) (.int .u8)))) (.prod (.prod (.int .i64) (.int .i64)) (.prod (.int .i64) (.int .i64))))))) 4 quarters)]
def es:List (Nat×List AV):=GM.map fun g=>(g.1,g.2.2.flatMap (cellsAV g.2.1))
def BI:Base:=⟨ofEnts es,nx0⟩
noncomputable def k33:CFn:=gk (cfn Tryz.prog gl Tryz.f33)
theorem k33_ok:cfn Tryz.prog gl Tryz.f33=some k33:=gk_ok (by kernel_rfl)
noncomputable def k128:CFn:=gk (cfn Tryz.prog gl Tryz.f128)
theorem k128_ok:cfn Tryz.prog gl Tryz.f128=some k128:=gk_ok (by kernel_rfl)
noncomputable def k161:CFn:=gk (cfn Tryz.prog gl Tryz.f161)
theorem k161_ok:cfn Tryz.prog gl Tryz.f161=some k161:=gk_ok (by kernel_rfl)
noncomputable def k167:CFn:=gk (cfn Tryz.prog gl Tryz.f167)
theorem k167_ok:cfn Tryz.prog gl Tryz.f167=some k167:=gk_ok (by kernel_rfl)
noncomputable def k168:CFn:=gk (cfn Tryz.prog gl Tryz.f168)
theorem k168_ok:cfn Tryz.prog gl Tryz.f168=some k168:=gk_ok (by kernel_rfl)
noncomputable def k169:CFn:=gk (cfn Tryz.prog gl Tryz.f169)
theorem k169_ok:cfn Tryz.prog gl Tryz.f169=some k169:=gk_ok (by kernel_rfl)
noncomputable def k170:CFn:=gk (cfn Tryz.prog gl Tryz.f170)
theorem k170_ok:cfn Tryz.prog gl Tryz.f170=some k170:=gk_ok (by kernel_rfl)
noncomputable def k171:CFn:=gk (cfn Tryz.prog gl Tryz.f171)
theorem k171_ok:cfn Tryz.prog gl Tryz.f171=some k171:=gk_ok (by kernel_rfl)
noncomputable def k188:CFn:=gk (cfn Tryz.prog gl Tryz.f188)
theorem k188_ok:cfn Tryz.prog gl Tryz.f188=some k188:=gk_ok (by kernel_rfl)
attribute [local irreducible] k33 k128 k161 k167 k168 k169 k170 k171 k188
noncomputable def kl:List (Nat×CFn):=[(33,k33),(128,k128),(161,k161),(167,k167),(168,k168),(169,k169),(170,k170),(171,k171),(188,k188)]
noncomputable def prog:Tr CFn:=ofK kl
theorem prog_ok:ProgOK Tryz.prog gl prog:=progOK_of noIts_ok ⟨⟨Tryz.f33,Tryz.func33,.inl k33_ok⟩,⟨Tryz.f128,Tryz.func128,.inl k128_ok⟩,⟨Tryz.f161,Tryz.func161,.inl k161_ok⟩,⟨Tryz.f167,Tryz.func167,.inl k167_ok⟩,⟨Tryz.f168,Tryz.func168,.inl k168_ok⟩,⟨Tryz.f169,Tryz.func169,.inl k169_ok⟩,⟨Tryz.f170,Tryz.func170,.inl k170_ok⟩,⟨Tryz.f171,Tryz.func171,.inl k171_ok⟩,⟨Tryz.f188,Tryz.func188,.inl k188_ok⟩,trivial⟩
theorem mixed:Tryz.prog.follows .mixedOrders=true:=by kernel_rfl
def z_sheets_Check:FuncId×Fx:=(33,mkFx k33 [] ⟨[],[]⟩)
def z_sheets_Cell:FuncId×Fx:=(167,mkFx k167 [] ⟨[],[]⟩)
def z_sheets_Sheet_cell:FuncId×Fx:=(170,mkFx k170 [] ⟨[],[]⟩)
def z_sheets_Sheet_has:FuncId×Fx:=(188,mkFx k188 [] ⟨[],[]⟩)
def z_sheets_Id:FuncId×Fx:=(169,mkFx k169 [] ⟨[],[]⟩)
def z_cells_Check:FuncId×Fx:=(171,mkFx k171 [] ⟨[],[]⟩)
def z_cells_Neighbour:FuncId×Fx:=(168,mkFx k168 [] ⟨[],[]⟩)
def z_sheets_Neighbour:FuncId×Fx:=(128,mkFx k128 [] ⟨[],[]⟩)
def z_sheets_Count:FuncId×Fx:=(161,mkFx k161 [] ⟨[],[]⟩)
def sheets_Check (N:Nat) (a:(Int×Int)):Option Int:=bif(decide (a.1<1)) then(some 1) else(bif(decide (a.2<1)) then(some 1) else(bif(decide ((256:Int)<a.1)) then(some 1) else(bif(decide ((256:Int)<a.2)) then(some 1) else(chk (i64b (a.1*a.2)) (bif(decide ((256:Int)< (a.1*a.2))) then(some 1) else(some 0))))))
abbrev t_sheets_Check (N:Nat):TE:=⟨33,[(.d (.prod (.int .i64) (.int .i64)))],[(.d (.int .i64))],sheets_Check N⟩
theorem sheets_Check_eq:∀N a,runX N (hnd N [] [] 0) GG z_sheets_Check.2 (t_sheets_Check N).ins (t_sheets_Check N).outs a=sheets_Check N a:=fun N a=>by kernel_rfl
def sheets_Cell (N:Nat) (a:((Int×Int)×Int)):Option ((Int×(Int×Int))×Int):=(sheets_Check N (a.1.1,a.1.2)).bind fun r1=>bif(decide (r1≠0)) then(some ((0,(0,0)),r1)) else(bif(decide ((0:Int)≤a.2)) then(chk (i64b (4*a.1.1)) (chk (i64b ((4*a.1.1)*a.1.2)) (bif(!(decide (a.2< ((4*a.1.1)*a.1.2)))) then(some ((0,(0,0)),7)) else(chk (decide (0≤a.2)&&decide (0< (4:Int))&&decide (IntKind.i64.wrap (a.2 / (4:Int))=a.2 / (4:Int))) (chk (decide (0≤(a.2 / 4))&&decide (0<a.1.1)) (chk (decide (0≤a.2)&&decide (0< (4:Int))&&decide (IntKind.i64.wrap (a.2 / (4:Int))=a.2 / (4:Int))) (chk (decide (0≤(a.2 / 4))&&decide (0<a.1.1)&&decide (IntKind.i64.wrap ((a.2 / 4) / a.1.1)=(a.2 / 4) / a.1.1)) (chk (decide (0≤a.2)&&decide (0< (4:Int))) (some ((((a.2 / 4)%a.1.1),(((a.2 / 4) / a.1.1),(IntKind.u8.wrap (a.2%4)))),0)))))))))) else(some ((0,(0,0)),7)))
abbrev t_sheets_Cell (N:Nat):TE:=⟨167,[(.d (.prod (.int .i64) (.int .i64))),(.d (.int .i64))],[(.d (.prod (.int .i64) (.prod (.int .i64) (.int .u8)))),(.d (.int .i64))],sheets_Cell N⟩
theorem sheets_Cell_eq:∀N a,runX N (hnd N [t_sheets_Check N] [z_sheets_Sheet_cell,z_sheets_Sheet_has] 1) GG z_sheets_Cell.2 (t_sheets_Cell N).ins (t_sheets_Cell N).outs a=sheets_Cell N a:=fun N a=>by kernel_rfl
def sheets_Id (N:Nat) (a:((Int×Int)×(Int×(Int×Int)))):Option (Int×Int):=(sheets_Check N (a.1.1,a.1.2)).bind fun r1=>bif(decide (r1≠0)) then(some (0,r1)) else(bif(decide (a.2.1< (-4096))) then(some (0,7)) else(bif(decide ((4096:Int)<a.2.1)) then(some (0,7)) else(bif(decide (a.2.2.1< (-4096))) then(some (0,7)) else(bif(decide ((4096:Int)<a.2.2.1)) then(some (0,7)) else(bif(decide ((3:Int)<a.2.2.2)) then(some (0,7)) else(bif(decide (a.2.1<0)) then(some (0,7)) else(bif(decide (a.1.1≤a.2.1)) then(some (0,7)) else(bif(decide (a.2.2.1<0)) then(some (0,7)) else(bif(decide (a.1.2≤a.2.2.1)) then(some (0,7)) else(chk (i64b (a.2.2.1*a.1.1)) (chk (i64b ((a.2.2.1*a.1.1)+a.2.1)) (chk (i64b (4* ((a.2.2.1*a.1.1)+a.2.1))) (chk (i64b a.2.2.2) (chk (i64b ((4* ((a.2.2.1*a.1.1)+a.2.1))+a.2.2.2)) (some (((4* ((a.2.2.1*a.1.1)+a.2.1))+a.2.2.2),0))))))))))))))))
abbrev t_sheets_Id (N:Nat):TE:=⟨169,[(.d (.prod (.int .i64) (.int .i64))),(.d (.prod (.int .i64) (.prod (.int .i64) (.int .u8))))],[(.d (.int .i64)),(.d (.int .i64))],sheets_Id N⟩
theorem sheets_Id_eq:∀N a,runX N (hnd N [t_sheets_Check N] [z_cells_Check] 1) GG z_sheets_Id.2 (t_sheets_Id N).ins (t_sheets_Id N).outs a=sheets_Id N a:=fun N a=>by kernel_rfl
def cells_Neighbour (N:Nat) (a:((Int×(Int×Int))×Int)):Option ((Int×(Int×Int))×Int):=bif(decide (a.1.1< (-4096))) then(some ((0,(0,0)),1)) else(bif(decide ((4096:Int)<a.1.1)) then(some ((0,(0,0)),1)) else(bif(decide (a.1.2.1< (-4096))) then(some ((0,(0,0)),1)) else(bif(decide ((4096:Int)<a.1.2.1)) then(some ((0,(0,0)),1)) else(bif(decide ((3:Int)<a.1.2.2)) then(some ((0,(0,0)),1)) else(bif(decide ((2:Int)<a.2)) then(some ((0,(0,0)),1)) else(chk (inb a.1.2.2 4) (chk (inb a.2 3) (chk (i64b (((quarters.getD a.1.2.2.toNat ((0,0),(0,(0,((List.replicate 3 (0,(0,0))),((0,0),(0,0))))))).2.2.2.1.getD a.2.toNat (0,(0,0))).1+a.1.1)) (chk (i64b (((quarters.getD a.1.2.2.toNat ((0,0),(0,(0,((List.replicate 3 (0,(0,0))),((0,0),(0,0))))))).2.2.2.1.getD a.2.toNat (0,(0,0))).2.1+a.1.2.1)) (bif(decide ((((quarters.getD a.1.2.2.toNat ((0,0),(0,(0,((List.replicate 3 (0,(0,0))),((0,0),(0,0))))))).2.2.2.1.getD a.2.toNat (0,(0,0))).1+a.1.1)< (-4096))) then(some ((0,(0,0)),3)) else(bif(decide ((4096:Int)< (((quarters.getD a.1.2.2.toNat ((0,0),(0,(0,((List.replicate 3 (0,(0,0))),((0,0),(0,0))))))).2.2.2.1.getD a.2.toNat (0,(0,0))).1+a.1.1))) then(some ((0,(0,0)),3)) else(bif(decide ((((quarters.getD a.1.2.2.toNat ((0,0),(0,(0,((List.replicate 3 (0,(0,0))),((0,0),(0,0))))))).2.2.2.1.getD a.2.toNat (0,(0,0))).2.1+a.1.2.1)< (-4096))) then(some ((0,(0,0)),3)) else(bif(decide ((4096:Int)< (((quarters.getD a.1.2.2.toNat ((0,0),(0,(0,((List.replicate 3 (0,(0,0))),((0,0),(0,0))))))).2.2.2.1.getD a.2.toNat (0,(0,0))).2.1+a.1.2.1))) then(some ((0,(0,0)),3)) else(bif(decide ((3:Int)< ((quarters.getD a.1.2.2.toNat ((0,0),(0,(0,((List.replicate 3 (0,(0,0))),((0,0),(0,0))))))).2.2.2.1.getD a.2.toNat (0,(0,0))).2.2)) then(some ((0,(0,0)),3)) else(some (((((quarters.getD a.1.2.2.toNat ((0,0),(0,(0,((List.replicate 3 (0,(0,0))),((0,0),(0,0))))))).2.2.2.1.getD a.2.toNat (0,(0,0))).1+a.1.1),((((quarters.getD a.1.2.2.toNat ((0,0),(0,(0,((List.replicate 3 (0,(0,0))),((0,0),(0,0))))))).2.2.2.1.getD a.2.toNat (0,(0,0))).2.1+a.1.2.1),((quarters.getD a.1.2.2.toNat ((0,0),(0,(0,((List.replicate 3 (0,(0,0))),((0,0),(0,0))))))).2.2.2.1.getD a.2.toNat (0,(0,0))).2.2)),0))))))))))))))))
abbrev t_cells_Neighbour (N:Nat):TE:=⟨168,[(.d (.prod (.int .i64) (.prod (.int .i64) (.int .u8)))),(.d (.int .u8))],[(.d (.prod (.int .i64) (.prod (.int .i64) (.int .u8)))),(.d (.int .i64))],cells_Neighbour N⟩
theorem cells_Neighbour_eq:∀N a,runX N (hnd N [] [z_cells_Check] 1) GG z_cells_Neighbour.2 (t_cells_Neighbour N).ins (t_cells_Neighbour N).outs a=cells_Neighbour N a:=fun N a=>by kernel_rfl
def sheets_Neighbour (N:Nat) (a:((Int×Int)×(Int×Int))):Option (Int×Int):=(sheets_Cell N ((a.1.1,a.1.2),a.2.1)).bind fun r1=>bif(decide (r1.2≠0)) then(some (0,r1.2)) else((cells_Neighbour N ((r1.1.1,(r1.1.2.1,r1.1.2.2)),a.2.2)).bind fun r2=>bif(decide (r2.2≠0)) then(some (0,1)) else((sheets_Id N ((a.1.1,a.1.2),(r2.1.1,(r2.1.2.1,r2.1.2.2)))).bind fun r3=>some (r3.1,r3.2)))
abbrev t_sheets_Neighbour (N:Nat):TE:=⟨128,[(.d (.prod (.int .i64) (.int .i64))),(.d (.int .i64)),(.d (.int .u8))],[(.d (.int .i64)),(.d (.int .i64))],sheets_Neighbour N⟩
theorem sheets_Neighbour_eq:∀N a,runX N (hnd N [t_sheets_Cell N,t_cells_Neighbour N,t_sheets_Id N] [] 0) GG z_sheets_Neighbour.2 (t_sheets_Neighbour N).ins (t_sheets_Neighbour N).outs a=sheets_Neighbour N a:=fun N a=>by kernel_rfl
def sheets_Count (N:Nat) (a:(Int×Int)):Option Int:=(sheets_Check N (a.1,a.2)).bind fun r1=>bif(decide (r1≠0)) then(some 0) else(chk (i64b (4*a.1)) (chk (i64b ((4*a.1)*a.2)) (some ((4*a.1)*a.2))))
abbrev t_sheets_Count (N:Nat):TE:=⟨161,[(.d (.prod (.int .i64) (.int .i64)))],[(.d (.int .i64))],sheets_Count N⟩
theorem sheets_Count_eq:∀N a,runX N (hnd N [t_sheets_Check N] [] 0) GG z_sheets_Count.2 (t_sheets_Count N).ins (t_sheets_Count N).outs a=sheets_Count N a:=fun N a=>by kernel_rfl
def none0:Memo:=fun _ _=>none
theorem none_ok:MemoOK Tryz.prog gl BI none0:=fun f az g h=>by cases h
theorem gok:GRel BI nu0 GG:=gok_of (B:=BI) (es:=es) rfl (l:=GM) (by kernel_rfl) (by kernel_rfl)
abbrev OK (l:Nat) (t:TE):Prop:=OKs (BI) none0 prog l [t]
abbrev CK (x:FuncId×Fx):Prop:=(∀vs,none0 x.1 vs=none)∧prog.get x.1=some x.2.cfn
theorem c_sheets_Check:CK z_sheets_Check:=⟨fun _=>rfl,by kernel_rfl⟩
theorem c_sheets_Neighbour:CK z_sheets_Neighbour:=⟨fun _=>rfl,by kernel_rfl⟩
theorem c_sheets_Count:CK z_sheets_Count:=⟨fun _=>rfl,by kernel_rfl⟩
theorem c_sheets_Cell:CK z_sheets_Cell:=⟨fun _=>rfl,by kernel_rfl⟩
theorem c_cells_Neighbour:CK z_cells_Neighbour:=⟨fun _=>rfl,by kernel_rfl⟩
theorem c_sheets_Id:CK z_sheets_Id:=⟨fun _=>rfl,by kernel_rfl⟩
theorem c_sheets_Sheet_cell:CK z_sheets_Sheet_cell:=⟨fun _=>rfl,by kernel_rfl⟩
theorem c_cells_Check:CK z_cells_Check:=⟨fun _=>rfl,by kernel_rfl⟩
theorem c_sheets_Sheet_has:CK z_sheets_Sheet_has:=⟨fun _=>rfl,by kernel_rfl⟩
theorem o_sheets_Check:OK 1 (t_sheets_Check fuel):=fx_ok (m:=0) (d:=0) OKs_nil CodeOK_nil gok c_sheets_Check (fun a=>sheets_Check_eq fuel a)
theorem o_sheets_Cell:OK 3 (t_sheets_Cell fuel):=fx_ok (m:=1) (d:=1) (OKs_cons (OKs_up o_sheets_Check (Nat.le_of_ble_eq_true rfl)) OKs_nil) (CodeOK_cons c_sheets_Sheet_cell (CodeOK_cons c_sheets_Sheet_has CodeOK_nil)) gok c_sheets_Cell (fun a=>sheets_Cell_eq fuel a)
theorem o_sheets_Id:OK 3 (t_sheets_Id fuel):=fx_ok (m:=1) (d:=1) (OKs_cons (OKs_up o_sheets_Check (Nat.le_of_ble_eq_true rfl)) OKs_nil) (CodeOK_cons c_cells_Check CodeOK_nil) gok c_sheets_Id (fun a=>sheets_Id_eq fuel a)
theorem o_cells_Neighbour:OK 2 (t_cells_Neighbour fuel):=fx_ok (m:=0) (d:=1) OKs_nil (CodeOK_cons c_cells_Check CodeOK_nil) gok c_cells_Neighbour (fun a=>cells_Neighbour_eq fuel a)
theorem o_sheets_Neighbour:OK 4 (t_sheets_Neighbour fuel):=fx_ok (m:=3) (d:=0) (OKs_cons (OKs_up o_sheets_Cell (Nat.le_of_ble_eq_true rfl)) (OKs_cons (OKs_up o_cells_Neighbour (Nat.le_of_ble_eq_true rfl)) (OKs_cons (OKs_up o_sheets_Id (Nat.le_of_ble_eq_true rfl)) OKs_nil))) CodeOK_nil gok c_sheets_Neighbour (fun a=>sheets_Neighbour_eq fuel a)
theorem o_sheets_Count:OK 2 (t_sheets_Count fuel):=fx_ok (m:=1) (d:=0) (OKs_cons (OKs_up o_sheets_Check (Nat.le_of_ble_eq_true rfl)) OKs_nil) CodeOK_nil gok c_sheets_Count (fun a=>sheets_Count_eq fuel a)
end
end Go.Vm.X.In
