/- The inner machine for a sheet's units: sheets.Neighbour and sheets.Count, with their contracts. (Printed by a program.) -/
import Derived.Test.YtccefhabickfiaaGreatDoorProg
import Derived.Test.YtccefhabickfiaaGreatDoorXG7
set_option linter.unusedSimpArgs false
set_option linter.unusedVariables false
namespace Go.Vm.X.In
open Go Go.Vm Go.Vm.W Go.Vm.X Go.Proofs
noncomputable section
set_option maxRecDepth 100000
def gl:List Nat:=[1]
def nx0:Nat:=9
def jL:List ((Int×Int)×(Int×(Int×(List (Int×(Int×Int))×((Int×Int)×(Int×Int)))))):=[((0, -1),(2,(0,([(0,(-1,2)),(0,(0,1)),(0,(0,3))],((0,0),(2,0)))))),((1,0),(1,(1,([(1,(0,3)),(0,(0,0)),(0,(0,2))],((2,2),(2,0)))))),((0,1),(2,(1,([(0,(1,0)),(0,(0,3)),(0,(0,1))],((2,2),(0,2)))))),((-1,0),(1,(0,([(-1,(0,1)),(0,(0,2)),(0,(0,0))],((0,0),(0,2))))))]
def GM:List GD:=[⟨1,(.prod (.prod (.int .i64) (.int .i64)) (.prod (.int .u8) (.prod (.int .i64) (.prod (.arr 3 (.prod (.int .i64) (.prod (.int .i64) (.int .u8)))) (.prod (.prod (.int .i64) (.int .i64)) (.prod (.int .i64) (.int .i64))))))),jL⟩]
abbrev GG:cV:=[(gB+1,.fix (.prod (.prod (.int .i64) (.int .i64)) (.prod (.int .u8) (.prod (.int .i64) (.prod (.arr 3 (.prod (.int .i64) (.prod (.int .i64) (.int .u8)))) (.prod (.prod (.int .i64) (.int .i64)) (.prod (.int .i64) (.int .i64))))))) 4 jL)]
def es:List (Nat×List AV):=GM.map λg=>(g.1,g.2.2.flatMap (yD g.2.1))
def BI:Base:=⟨wD es,nx0⟩
noncomputable def G3:CFn:=gk (cfn Tryz.prog gl Tryz.f33)
theorem jtg:cfn Tryz.prog gl Tryz.f33=some G3:=cL (by kernel_rfl)
noncomputable def F5:CFn:=gk (cfn Tryz.prog gl Tryz.f128)
theorem js8:cfn Tryz.prog gl Tryz.f128=some F5:=cL (by kernel_rfl)
noncomputable def F6:CFn:=gk (cfn Tryz.prog gl Tryz.f161)
theorem js9:cfn Tryz.prog gl Tryz.f161=some F6:=cL (by kernel_rfl)
noncomputable def F7:CFn:=gk (cfn Tryz.prog gl Tryz.f167)
theorem jta:cfn Tryz.prog gl Tryz.f167=some F7:=cL (by kernel_rfl)
noncomputable def F8:CFn:=gk (cfn Tryz.prog gl Tryz.f168)
theorem jtb:cfn Tryz.prog gl Tryz.f168=some F8:=cL (by kernel_rfl)
noncomputable def F9:CFn:=gk (cfn Tryz.prog gl Tryz.f169)
theorem jtc:cfn Tryz.prog gl Tryz.f169=some F9:=cL (by kernel_rfl)
noncomputable def G0:CFn:=gk (cfn Tryz.prog gl Tryz.f170)
theorem jtd:cfn Tryz.prog gl Tryz.f170=some G0:=cL (by kernel_rfl)
noncomputable def G1:CFn:=gk (cfn Tryz.prog gl Tryz.f171)
theorem jte:cfn Tryz.prog gl Tryz.f171=some G1:=cL (by kernel_rfl)
noncomputable def G2:CFn:=gk (cfn Tryz.prog gl Tryz.f188)
theorem jtf:cfn Tryz.prog gl Tryz.f188=some G2:=cL (by kernel_rfl)
attribute [local irreducible] G3 F5 F6 F7 F8 F9 G0 G1 G2
noncomputable def kl:List (Nat×CFn):=[(33,G3),(128,F5),(161,F6),(167,F7),(168,F8),(169,F9),(170,G0),(171,G1),(188,G2)]
noncomputable def prog:Tr CFn:=ofK kl
theorem O7:jge Tryz.prog gl prog:=juk j1y ⟨⟨Tryz.f33,Tryz.func33,.inl jtg⟩,⟨Tryz.f128,Tryz.func128,.inl js8⟩,⟨Tryz.f161,Tryz.func161,.inl js9⟩,⟨Tryz.f167,Tryz.func167,.inl jta⟩,⟨Tryz.f168,Tryz.func168,.inl jtb⟩,⟨Tryz.f169,Tryz.func169,.inl jtc⟩,⟨Tryz.f170,Tryz.func170,.inl jtd⟩,⟨Tryz.f171,Tryz.func171,.inl jte⟩,⟨Tryz.f188,Tryz.func188,.inl jtf⟩,trivial⟩
theorem mixed:Tryz.prog.follows .mixedOrders=true:=by kernel_rfl
def jkj:FuncId×Fx:=(33,cX G3 [] ⟨[],[]⟩)
def jki:FuncId×Fx:=(167,cX F7 [] ⟨[],[]⟩)
def jf5:FuncId×Fx:=(170,cX G0 [] ⟨[],[]⟩)
def jkn:FuncId×Fx:=(188,cX G2 [] ⟨[],[]⟩)
def jkl:FuncId×Fx:=(169,cX F9 [] ⟨[],[]⟩)
def S6:FuncId×Fx:=(171,cX G1 [] ⟨[],[]⟩)
def jkh:FuncId×Fx:=(168,cX F8 [] ⟨[],[]⟩)
def jkm:FuncId×Fx:=(128,cX F5 [] ⟨[],[]⟩)
def jkk:FuncId×Fx:=(161,cX F6 [] ⟨[],[]⟩)
def iC (N:Nat) (a:(Int×Int)):Option Int:=bif(decide (a.1<1)) then(some 1) else(bif(decide (a.2<1)) then(some 1) else(bif(decide ((256:Int)<a.1)) then(some 1) else(bif(decide ((256:Int)<a.2)) then(some 1) else(aA (aM (a.1*a.2)) (bif(decide ((256:Int)< (a.1*a.2))) then(some 1) else(some 0))))))
abbrev rJ (N:Nat):TE:=⟨33,[(.d (.prod (.int .i64) (.int .i64)))],[(.d (.int .i64))],iC N⟩
theorem jo3:∀N a,lT N (hnd N [] [] 0) GG jkj.2 (rJ N).ins (rJ N).outs a=iC N a:=λN a=>by kernel_rfl
def qM (N:Nat) (a:((Int×Int)×Int)):Option ((Int×(Int×Int))×Int):=(iC N (a.1.1,a.1.2)).bind λr1=>bif(decide (r1≠0)) then(some ((0,(0,0)),r1)) else(bif(decide ((0:Int)<=a.2)) then(aA (aM (4*a.1.1)) (aA (aM ((4*a.1.1)*a.1.2)) (bif(!(decide (a.2< ((4*a.1.1)*a.1.2)))) then(some ((0,(0,0)),7)) else(aA (decide (0<=a.2)&&decide (0< (4:Int))&&decide (IntKind.i64.wrap (a.2 / (4:Int))=a.2 / (4:Int))) (aA (decide (0<=(a.2 / 4))&&decide (0<a.1.1)) (aA (decide (0<=a.2)&&decide (0< (4:Int))&&decide (IntKind.i64.wrap (a.2 / (4:Int))=a.2 / (4:Int))) (aA (decide (0<=(a.2 / 4))&&decide (0<a.1.1)&&decide (IntKind.i64.wrap ((a.2 / 4) / a.1.1)=(a.2 / 4) / a.1.1)) (aA (decide (0<=a.2)&&decide (0< (4:Int))) (some ((((a.2 / 4)%a.1.1),(((a.2 / 4) / a.1.1),(IntKind.u8.wrap (a.2%4)))),0)))))))))) else(some ((0,(0,0)),7)))
abbrev J7 (N:Nat):TE:=⟨167,[(.d (.prod (.int .i64) (.int .i64))),(.d (.int .i64))],[(.d (.prod (.int .i64) (.prod (.int .i64) (.int .u8)))),(.d (.int .i64))],qM N⟩
theorem jo2:∀N a,lT N (hnd N [rJ N] [jf5,jkn] 1) GG jki.2 (J7 N).ins (J7 N).outs a=qM N a:=λN a=>by kernel_rfl
def jcx (N:Nat) (a:((Int×Int)×(Int×(Int×Int)))):Option (Int×Int):=(iC N (a.1.1,a.1.2)).bind λr1=>bif(decide (r1≠0)) then(some (0,r1)) else(bif(decide (a.2.1< (-4096))) then(some (0,7)) else(bif(decide ((4096:Int)<a.2.1)) then(some (0,7)) else(bif(decide (a.2.2.1< (-4096))) then(some (0,7)) else(bif(decide ((4096:Int)<a.2.2.1)) then(some (0,7)) else(bif(decide ((3:Int)<a.2.2.2)) then(some (0,7)) else(bif(decide (a.2.1<0)) then(some (0,7)) else(bif(decide (a.1.1<=a.2.1)) then(some (0,7)) else(bif(decide (a.2.2.1<0)) then(some (0,7)) else(bif(decide (a.1.2<=a.2.2.1)) then(some (0,7)) else(aA (aM (a.2.2.1*a.1.1)) (aA (aM ((a.2.2.1*a.1.1)+a.2.1)) (aA (aM (4* ((a.2.2.1*a.1.1)+a.2.1))) (aA (aM a.2.2.2) (aA (aM ((4* ((a.2.2.1*a.1.1)+a.2.1))+a.2.2.2)) (some (((4* ((a.2.2.1*a.1.1)+a.2.1))+a.2.2.2),0))))))))))))))))
abbrev J8 (N:Nat):TE:=⟨169,[(.d (.prod (.int .i64) (.int .i64))),(.d (.prod (.int .i64) (.prod (.int .i64) (.int .u8))))],[(.d (.int .i64)),(.d (.int .i64))],jcx N⟩
theorem jo4:∀N a,lT N (hnd N [rJ N] [S6] 1) GG jkl.2 (J8 N).ins (J8 N).outs a=jcx N a:=λN a=>by kernel_rfl
def tP (N:Nat) (a:((Int×(Int×Int))×Int)):Option ((Int×(Int×Int))×Int):=bif(decide (a.1.1< (-4096))) then(some ((0,(0,0)),1)) else(bif(decide ((4096:Int)<a.1.1)) then(some ((0,(0,0)),1)) else(bif(decide (a.1.2.1< (-4096))) then(some ((0,(0,0)),1)) else(bif(decide ((4096:Int)<a.1.2.1)) then(some ((0,(0,0)),1)) else(bif(decide ((3:Int)<a.1.2.2)) then(some ((0,(0,0)),1)) else(bif(decide ((2:Int)<a.2)) then(some ((0,(0,0)),1)) else(aA (aU a.1.2.2 4) (aA (aU a.2 3) (aA (aM (((jL.getD a.1.2.2.toNat ((0,0),(0,(0,((List.replicate 3 (0,(0,0))),((0,0),(0,0))))))).2.2.2.1.getD a.2.toNat (0,(0,0))).1+a.1.1)) (aA (aM (((jL.getD a.1.2.2.toNat ((0,0),(0,(0,((List.replicate 3 (0,(0,0))),((0,0),(0,0))))))).2.2.2.1.getD a.2.toNat (0,(0,0))).2.1+a.1.2.1)) (bif(decide ((((jL.getD a.1.2.2.toNat ((0,0),(0,(0,((List.replicate 3 (0,(0,0))),((0,0),(0,0))))))).2.2.2.1.getD a.2.toNat (0,(0,0))).1+a.1.1)< (-4096))) then(some ((0,(0,0)),3)) else(bif(decide ((4096:Int)< (((jL.getD a.1.2.2.toNat ((0,0),(0,(0,((List.replicate 3 (0,(0,0))),((0,0),(0,0))))))).2.2.2.1.getD a.2.toNat (0,(0,0))).1+a.1.1))) then(some ((0,(0,0)),3)) else(bif(decide ((((jL.getD a.1.2.2.toNat ((0,0),(0,(0,((List.replicate 3 (0,(0,0))),((0,0),(0,0))))))).2.2.2.1.getD a.2.toNat (0,(0,0))).2.1+a.1.2.1)< (-4096))) then(some ((0,(0,0)),3)) else(bif(decide ((4096:Int)< (((jL.getD a.1.2.2.toNat ((0,0),(0,(0,((List.replicate 3 (0,(0,0))),((0,0),(0,0))))))).2.2.2.1.getD a.2.toNat (0,(0,0))).2.1+a.1.2.1))) then(some ((0,(0,0)),3)) else(bif(decide ((3:Int)< ((jL.getD a.1.2.2.toNat ((0,0),(0,(0,((List.replicate 3 (0,(0,0))),((0,0),(0,0))))))).2.2.2.1.getD a.2.toNat (0,(0,0))).2.2)) then(some ((0,(0,0)),3)) else(some (((((jL.getD a.1.2.2.toNat ((0,0),(0,(0,((List.replicate 3 (0,(0,0))),((0,0),(0,0))))))).2.2.2.1.getD a.2.toNat (0,(0,0))).1+a.1.1),((((jL.getD a.1.2.2.toNat ((0,0),(0,(0,((List.replicate 3 (0,(0,0))),((0,0),(0,0))))))).2.2.2.1.getD a.2.toNat (0,(0,0))).2.1+a.1.2.1),((jL.getD a.1.2.2.toNat ((0,0),(0,(0,((List.replicate 3 (0,(0,0))),((0,0),(0,0))))))).2.2.2.1.getD a.2.toNat (0,(0,0))).2.2)),0))))))))))))))))
abbrev J6 (N:Nat):TE:=⟨168,[(.d (.prod (.int .i64) (.prod (.int .i64) (.int .u8)))),(.d (.int .u8))],[(.d (.prod (.int .i64) (.prod (.int .i64) (.int .u8)))),(.d (.int .i64))],tP N⟩
theorem jlo:∀N a,lT N (hnd N [] [S6] 1) GG jkh.2 (J6 N).ins (J6 N).outs a=tP N a:=λN a=>by kernel_rfl
def sheets_Neighbour (N:Nat) (a:((Int×Int)×(Int×Int))):Option (Int×Int):=(qM N ((a.1.1,a.1.2),a.2.1)).bind λr1=>bif(decide (r1.2≠0)) then(some (0,r1.2)) else((tP N ((r1.1.1,(r1.1.2.1,r1.1.2.2)),a.2.2)).bind λr2=>bif(decide (r2.2≠0)) then(some (0,1)) else((jcx N ((a.1.1,a.1.2),(r2.1.1,(r2.1.2.1,r2.1.2.2)))).bind λr3=>some (r3.1,r3.2)))
abbrev R5 (N:Nat):TE:=⟨128,[(.d (.prod (.int .i64) (.int .i64))),(.d (.int .i64)),(.d (.int .u8))],[(.d (.int .i64)),(.d (.int .i64))],sheets_Neighbour N⟩
theorem jo5:∀N a,lT N (hnd N [J7 N,J6 N,J8 N] [] 0) GG jkm.2 (R5 N).ins (R5 N).outs a=sheets_Neighbour N a:=λN a=>by kernel_rfl
def sheets_Count (N:Nat) (a:(Int×Int)):Option Int:=(iC N (a.1,a.2)).bind λr1=>bif(decide (r1≠0)) then(some 0) else(aA (aM (4*a.1)) (aA (aM ((4*a.1)*a.2)) (some ((4*a.1)*a.2))))
abbrev jdd (N:Nat):TE:=⟨161,[(.d (.prod (.int .i64) (.int .i64)))],[(.d (.int .i64))],sheets_Count N⟩
theorem ju4:∀N a,lT N (hnd N [rJ N] [] 0) GG jkk.2 (jdd N).ins (jdd N).outs a=sheets_Count N a:=λN a=>by kernel_rfl
def jnf:iP:=λ_ _=>none
theorem kig:oE Tryz.prog gl BI jnf:=λf az g h=>by cases h
theorem cP:GRel BI O2 GG:=jz7 (B:=BI) (es:=es) rfl (l:=GM) (by kernel_rfl) (by kernel_rfl)
abbrev OK (l:Nat) (t:TE):Prop:=eG (BI) jnf prog l [t]
abbrev CK (x:FuncId×Fx):Prop:=(∀vs,jnf x.1 vs=none)/\prog.get x.1=some x.2.cfn
theorem jlg:CK jkj:=⟨λ_=>rfl,by kernel_rfl⟩
theorem jli:CK jkm:=⟨λ_=>rfl,by kernel_rfl⟩
theorem jrw:CK jkk:=⟨λ_=>rfl,by kernel_rfl⟩
theorem jlf:CK jki:=⟨λ_=>rfl,by kernel_rfl⟩
theorem jld:CK jkh:=⟨λ_=>rfl,by kernel_rfl⟩
theorem jlh:CK jkl:=⟨λ_=>rfl,by kernel_rfl⟩
theorem jd4:CK jf5:=⟨λ_=>rfl,by kernel_rfl⟩
theorem c7:CK S6:=⟨λ_=>rfl,by kernel_rfl⟩
theorem jlj:CK jkn:=⟨λ_=>rfl,by kernel_rfl⟩
theorem yV:OK 1 (rJ fuel):=cW (m:=0) (d:=0) cR cQ cP jlg (λa=>jo3 fuel a)
theorem jt5:OK 3 (J7 fuel):=cW (m:=1) (d:=1) (T1 (T3 yV (xM rfl)) cR) (gR jd4 (gR jlj cQ)) cP jlf (λa=>jo2 fuel a)
theorem jt6:OK 3 (J8 fuel):=cW (m:=1) (d:=1) (T1 (T3 yV (xM rfl)) cR) (gR c7 cQ) cP jlh (λa=>jo4 fuel a)
theorem jty:OK 2 (J6 fuel):=cW (m:=0) (d:=1) cR (gR c7 cQ) cP jld (λa=>jlo fuel a)
theorem jt7:OK 4 (R5 fuel):=cW (m:=3) (d:=0) (T1 (T3 jt5 (xM rfl)) (T1 (T3 jty (xM rfl)) (T1 (T3 jt6 (xM rfl)) cR))) cQ cP jli (λa=>jo5 fuel a)
theorem j2o:OK 2 (jdd fuel):=cW (m:=1) (d:=0) (T1 (T3 yV (xM rfl)) cR) cQ cP jrw (λa=>ju4 fuel a)
end
end Go.Vm.X.In
