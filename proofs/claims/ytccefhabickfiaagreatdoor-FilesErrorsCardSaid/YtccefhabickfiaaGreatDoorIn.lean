/-
  The inner machine for a sheet's units: sheets.Neighbour and sheets.Count, with their contracts. (Printed by a program.)
-/
import Derived.Test.YtccefhabickfiaaGreatDoorProg
import Derived.Test.YtccefhabickfiaaGreatDoorXG7
set_option linter.unusedSimpArgs false
set_option linter.unusedVariables false
set_option linter.unusedSectionVars false
set_option linter.unnecessarySimpa false
namespace Go.Vm.X.In
open Go Go.Vm Go.Vm.W Go.Vm.X Go.Proofs
noncomputable section
set_option maxRecDepth 100000
def gl:List Nat:=[1]
def nx0:Nat:=9
def lN:List ((Int×Int)×(Int×(Int×(List (Int×(Int×Int))×((Int×Int)×(Int×Int)))))):=[((0, -1),(2,(0,([(0,(-1,2)),(0,(0,1)),(0,(0,3))],((0,0),(2,0)))))),((1,0),(1,(1,([(1,(0,3)),(0,(0,0)),(0,(0,2))],((2,2),(2,0)))))),((0,1),(2,(1,([(0,(1,0)),(0,(0,3)),(0,(0,1))],((2,2),(0,2)))))),((-1,0),(1,(0,([(-1,(0,1)),(0,(0,2)),(0,(0,0))],((0,0),(0,2))))))]
def GM:List GD:=[⟨1,(.prod (.prod (.int .i64) (.int .i64)) (.prod (.int .u8) (.prod (.int .i64) (.prod (.arr 3 (.prod (.int .i64) (.prod (.int .i64) (.int .u8)))) (.prod (.prod (.int .i64) (.int .i64)) (.prod (.int .i64) (.int .i64))))))),lN⟩]
abbrev GG:dT:=[(gB+1,.fix (.prod (.prod (.int .i64) (.int .i64)) (.prod (.int .u8) (.prod (.int .i64) (.prod (.arr 3 (.prod (.int .i64) (.prod (.int .i64) (.int .u8)))) (.prod (.prod (.int .i64) (.int .i64)) (.prod (.int .i64) (.int .i64))))))) 4 lN)]
def es:List (Nat×List AV):=GM.map λg=>(g.1,g.2.2.flatMap (C2 g.2.1))
def BI:Base:=⟨d6 es,nx0⟩
noncomputable def V7:CFn:=gk (cfn Tryz.prog gl Tryz.f33)
theorem jud:cfn Tryz.prog gl Tryz.f33=some V7:=cX (by kernel_rfl)
noncomputable def U9:CFn:=gk (cfn Tryz.prog gl Tryz.f128)
theorem jt5:cfn Tryz.prog gl Tryz.f128=some U9:=cX (by kernel_rfl)
noncomputable def V0:CFn:=gk (cfn Tryz.prog gl Tryz.f161)
theorem jt6:cfn Tryz.prog gl Tryz.f161=some V0:=cX (by kernel_rfl)
noncomputable def V1:CFn:=gk (cfn Tryz.prog gl Tryz.f167)
theorem jt7:cfn Tryz.prog gl Tryz.f167=some V1:=cX (by kernel_rfl)
noncomputable def V2:CFn:=gk (cfn Tryz.prog gl Tryz.f168)
theorem jt8:cfn Tryz.prog gl Tryz.f168=some V2:=cX (by kernel_rfl)
noncomputable def V3:CFn:=gk (cfn Tryz.prog gl Tryz.f169)
theorem jt9:cfn Tryz.prog gl Tryz.f169=some V3:=cX (by kernel_rfl)
noncomputable def V4:CFn:=gk (cfn Tryz.prog gl Tryz.f170)
theorem jua:cfn Tryz.prog gl Tryz.f170=some V4:=cX (by kernel_rfl)
noncomputable def V5:CFn:=gk (cfn Tryz.prog gl Tryz.f171)
theorem jub:cfn Tryz.prog gl Tryz.f171=some V5:=cX (by kernel_rfl)
noncomputable def V6:CFn:=gk (cfn Tryz.prog gl Tryz.f188)
theorem juc:cfn Tryz.prog gl Tryz.f188=some V6:=cX (by kernel_rfl)
attribute [local irreducible] V7 U9 V0 V1 V2 V3 V4 V5 V6
noncomputable def kl:List (Nat×CFn):=[(33,V7),(128,U9),(161,V0),(167,V1),(168,V2),(169,V3),(170,V4),(171,V5),(188,V6)]
noncomputable def prog:Tr CFn:=ofK kl
theorem N8:jiv Tryz.prog gl prog:=jvi j2t ⟨⟨Tryz.f33,Tryz.func33,.inl jud⟩,⟨Tryz.f128,Tryz.func128,.inl jt5⟩,⟨Tryz.f161,Tryz.func161,.inl jt6⟩,⟨Tryz.f167,Tryz.func167,.inl jt7⟩,⟨Tryz.f168,Tryz.func168,.inl jt8⟩,⟨Tryz.f169,Tryz.func169,.inl jt9⟩,⟨Tryz.f170,Tryz.func170,.inl jua⟩,⟨Tryz.f171,Tryz.func171,.inl jub⟩,⟨Tryz.f188,Tryz.func188,.inl juc⟩,trivial⟩
theorem mixed:Tryz.prog.follows .mixedOrders=true:=by kernel_rfl
def jnb:FuncId×Fx:=(33,dN V7 [] ⟨[],[]⟩)
def jna:FuncId×Fx:=(167,dN V1 [] ⟨[],[]⟩)
def jio:FuncId×Fx:=(170,dN V4 [] ⟨[],[]⟩)
def jnf:FuncId×Fx:=(188,dN V6 [] ⟨[],[]⟩)
def jnd:FuncId×Fx:=(169,dN V3 [] ⟨[],[]⟩)
def ja4:FuncId×Fx:=(171,dN V5 [] ⟨[],[]⟩)
def jm9:FuncId×Fx:=(168,dN V2 [] ⟨[],[]⟩)
def jne:FuncId×Fx:=(128,dN U9 [] ⟨[],[]⟩)
def jnc:FuncId×Fx:=(161,dN V0 [] ⟨[],[]⟩)
def gG (N:Nat) (a:(Int×Int)):Option Int:=bif(decide (a.1<1)) then(some 1) else(bif(decide (a.2<1)) then(some 1) else(bif(decide ((256:Int)<a.1)) then(some 1) else(bif(decide ((256:Int)<a.2)) then(some 1) else(aB (aR (a.1*a.2)) (bif(decide ((256:Int)< (a.1*a.2))) then(some 1) else(some 0))))))
abbrev tT (N:Nat):TE:=⟨33,[(.d (.prod (.int .i64) (.int .i64)))],[(.d (.int .i64))],gG N⟩
theorem jqp:∀N a,eJ N (hnd N [] [] 0) GG jnb.2 (tT N).ins (tT N).outs a=gG N a:=λN a=>by kernel_rfl
def pG (N:Nat) (a:((Int×Int)×Int)):Option ((Int×(Int×Int))×Int):=(gG N (a.1.1,a.1.2)).bind λr1=>bif(decide (r1≠0)) then(some ((0,(0,0)),r1)) else(bif(decide ((0:Int)<=a.2)) then(aB (aR (4*a.1.1)) (aB (aR ((4*a.1.1)*a.1.2)) (bif(!(decide (a.2< ((4*a.1.1)*a.1.2)))) then(some ((0,(0,0)),7)) else(aB (decide (0<=a.2)&&decide (0< (4:Int))&&decide (IntKind.i64.wrap (a.2 / (4:Int))=a.2 / (4:Int))) (aB (decide (0<=(a.2 / 4))&&decide (0<a.1.1)) (aB (decide (0<=a.2)&&decide (0< (4:Int))&&decide (IntKind.i64.wrap (a.2 / (4:Int))=a.2 / (4:Int))) (aB (decide (0<=(a.2 / 4))&&decide (0<a.1.1)&&decide (IntKind.i64.wrap ((a.2 / 4) / a.1.1)=(a.2 / 4) / a.1.1)) (aB (decide (0<=a.2)&&decide (0< (4:Int))) (some ((((a.2 / 4)%a.1.1),(((a.2 / 4) / a.1.1),(IntKind.u8.wrap (a.2%4)))),0)))))))))) else(some ((0,(0,0)),7)))
abbrev Y4 (N:Nat):TE:=⟨167,[(.d (.prod (.int .i64) (.int .i64))),(.d (.int .i64))],[(.d (.prod (.int .i64) (.prod (.int .i64) (.int .u8)))),(.d (.int .i64))],pG N⟩
theorem jqo:∀N a,eJ N (hnd N [tT N] [jio,jnf] 1) GG jna.2 (Y4 N).ins (Y4 N).outs a=pG N a:=λN a=>by kernel_rfl
def jd4 (N:Nat) (a:((Int×Int)×(Int×(Int×Int)))):Option (Int×Int):=(gG N (a.1.1,a.1.2)).bind λr1=>bif(decide (r1≠0)) then(some (0,r1)) else(bif(decide (a.2.1< (-4096))) then(some (0,7)) else(bif(decide ((4096:Int)<a.2.1)) then(some (0,7)) else(bif(decide (a.2.2.1< (-4096))) then(some (0,7)) else(bif(decide ((4096:Int)<a.2.2.1)) then(some (0,7)) else(bif(decide ((3:Int)<a.2.2.2)) then(some (0,7)) else(bif(decide (a.2.1<0)) then(some (0,7)) else(bif(decide (a.1.1<=a.2.1)) then(some (0,7)) else(bif(decide (a.2.2.1<0)) then(some (0,7)) else(bif(decide (a.1.2<=a.2.2.1)) then(some (0,7)) else(aB (aR (a.2.2.1*a.1.1)) (aB (aR ((a.2.2.1*a.1.1)+a.2.1)) (aB (aR (4* ((a.2.2.1*a.1.1)+a.2.1))) (aB (aR a.2.2.2) (aB (aR ((4* ((a.2.2.1*a.1.1)+a.2.1))+a.2.2.2)) (some (((4* ((a.2.2.1*a.1.1)+a.2.1))+a.2.2.2),0))))))))))))))))
abbrev Y5 (N:Nat):TE:=⟨169,[(.d (.prod (.int .i64) (.int .i64))),(.d (.prod (.int .i64) (.prod (.int .i64) (.int .u8))))],[(.d (.int .i64)),(.d (.int .i64))],jd4 N⟩
theorem jqq:∀N a,eJ N (hnd N [tT N] [ja4] 1) GG jnd.2 (Y5 N).ins (Y5 N).outs a=jd4 N a:=λN a=>by kernel_rfl
def sY (N:Nat) (a:((Int×(Int×Int))×Int)):Option ((Int×(Int×Int))×Int):=bif(decide (a.1.1< (-4096))) then(some ((0,(0,0)),1)) else(bif(decide ((4096:Int)<a.1.1)) then(some ((0,(0,0)),1)) else(bif(decide (a.1.2.1< (-4096))) then(some ((0,(0,0)),1)) else(bif(decide ((4096:Int)<a.1.2.1)) then(some ((0,(0,0)),1)) else(bif(decide ((3:Int)<a.1.2.2)) then(some ((0,(0,0)),1)) else(bif(decide ((2:Int)<a.2)) then(some ((0,(0,0)),1)) else(aB (bB a.1.2.2 4) (aB (bB a.2 3) (aB (aR (((lN.getD a.1.2.2.toNat ((0,0),(0,(0,((List.replicate 3 (0,(0,0))),((0,0),(0,0))))))).2.2.2.1.getD a.2.toNat (0,(0,0))).1+a.1.1)) (aB (aR (((lN.getD a.1.2.2.toNat ((0,0),(0,(0,((List.replicate 3 (0,(0,0))),((0,0),(0,0))))))).2.2.2.1.getD a.2.toNat (0,(0,0))).2.1+a.1.2.1)) (bif(decide ((((lN.getD a.1.2.2.toNat ((0,0),(0,(0,((List.replicate 3 (0,(0,0))),((0,0),(0,0))))))).2.2.2.1.getD a.2.toNat (0,(0,0))).1+a.1.1)< (-4096))) then(some ((0,(0,0)),3)) else(bif(decide ((4096:Int)< (((lN.getD a.1.2.2.toNat ((0,0),(0,(0,((List.replicate 3 (0,(0,0))),((0,0),(0,0))))))).2.2.2.1.getD a.2.toNat (0,(0,0))).1+a.1.1))) then(some ((0,(0,0)),3)) else(bif(decide ((((lN.getD a.1.2.2.toNat ((0,0),(0,(0,((List.replicate 3 (0,(0,0))),((0,0),(0,0))))))).2.2.2.1.getD a.2.toNat (0,(0,0))).2.1+a.1.2.1)< (-4096))) then(some ((0,(0,0)),3)) else(bif(decide ((4096:Int)< (((lN.getD a.1.2.2.toNat ((0,0),(0,(0,((List.replicate 3 (0,(0,0))),((0,0),(0,0))))))).2.2.2.1.getD a.2.toNat (0,(0,0))).2.1+a.1.2.1))) then(some ((0,(0,0)),3)) else(bif(decide ((3:Int)< ((lN.getD a.1.2.2.toNat ((0,0),(0,(0,((List.replicate 3 (0,(0,0))),((0,0),(0,0))))))).2.2.2.1.getD a.2.toNat (0,(0,0))).2.2)) then(some ((0,(0,0)),3)) else(some (((((lN.getD a.1.2.2.toNat ((0,0),(0,(0,((List.replicate 3 (0,(0,0))),((0,0),(0,0))))))).2.2.2.1.getD a.2.toNat (0,(0,0))).1+a.1.1),((((lN.getD a.1.2.2.toNat ((0,0),(0,(0,((List.replicate 3 (0,(0,0))),((0,0),(0,0))))))).2.2.2.1.getD a.2.toNat (0,(0,0))).2.1+a.1.2.1),((lN.getD a.1.2.2.toNat ((0,0),(0,(0,((List.replicate 3 (0,(0,0))),((0,0),(0,0))))))).2.2.2.1.getD a.2.toNat (0,(0,0))).2.2)),0))))))))))))))))
abbrev Y2 (N:Nat):TE:=⟨168,[(.d (.prod (.int .i64) (.prod (.int .i64) (.int .u8)))),(.d (.int .u8))],[(.d (.prod (.int .i64) (.prod (.int .i64) (.int .u8)))),(.d (.int .i64))],sY N⟩
theorem jof:∀N a,eJ N (hnd N [] [ja4] 1) GG jm9.2 (Y2 N).ins (Y2 N).outs a=sY N a:=λN a=>by kernel_rfl
def sheets_Neighbour (N:Nat) (a:((Int×Int)×(Int×Int))):Option (Int×Int):=(pG N ((a.1.1,a.1.2),a.2.1)).bind λr1=>bif(decide (r1.2≠0)) then(some (0,r1.2)) else((sY N ((r1.1.1,(r1.1.2.1,r1.1.2.2)),a.2.2)).bind λr2=>bif(decide (r2.2≠0)) then(some (0,1)) else((jd4 N ((a.1.1,a.1.2),(r2.1.1,(r2.1.2.1,r2.1.2.2)))).bind λr3=>some (r3.1,r3.2)))
abbrev Y6 (N:Nat):TE:=⟨128,[(.d (.prod (.int .i64) (.int .i64))),(.d (.int .i64)),(.d (.int .u8))],[(.d (.int .i64)),(.d (.int .i64))],sheets_Neighbour N⟩
theorem jqr:∀N a,eJ N (hnd N [Y4 N,Y2 N,Y5 N] [] 0) GG jne.2 (Y6 N).ins (Y6 N).outs a=sheets_Neighbour N a:=λN a=>by kernel_rfl
def sheets_Count (N:Nat) (a:(Int×Int)):Option Int:=(gG N (a.1,a.2)).bind λr1=>bif(decide (r1≠0)) then(some 0) else(aB (aR (4*a.1)) (aB (aR ((4*a.1)*a.2)) (some ((4*a.1)*a.2))))
abbrev jcg (N:Nat):TE:=⟨161,[(.d (.prod (.int .i64) (.int .i64)))],[(.d (.int .i64))],sheets_Count N⟩
theorem jv3:∀N a,eJ N (hnd N [tT N] [] 0) GG jnc.2 (jcg N).ins (jcg N).outs a=sheets_Count N a:=λN a=>by kernel_rfl
def jpy:kT:=λ_ _=>none
theorem kjb:rB Tryz.prog gl BI jpy:=λf az g h=>by cases h
theorem dH:GRel BI nu0 GG:=j02 (B:=BI) (es:=es) rfl (l:=GM) (by kernel_rfl) (by kernel_rfl)
abbrev OK (l:Nat) (t:TE):Prop:=fU (BI) jpy prog l [t]
abbrev CK (x:FuncId×Fx):Prop:=(∀vs,jpy x.1 vs=none)/\prog.get x.1=some x.2.cfn
theorem jn8:CK jnb:=⟨λ_=>rfl,by kernel_rfl⟩
theorem joa:CK jne:=⟨λ_=>rfl,by kernel_rfl⟩
theorem jsq:CK jnc:=⟨λ_=>rfl,by kernel_rfl⟩
theorem jn7:CK jna:=⟨λ_=>rfl,by kernel_rfl⟩
theorem jn5:CK jm9:=⟨λ_=>rfl,by kernel_rfl⟩
theorem jn9:CK jnd:=⟨λ_=>rfl,by kernel_rfl⟩
theorem je1:CK jio:=⟨λ_=>rfl,by kernel_rfl⟩
theorem I8:CK ja4:=⟨λ_=>rfl,by kernel_rfl⟩
theorem job:CK jnf:=⟨λ_=>rfl,by kernel_rfl⟩
theorem D7:OK 1 (tT fuel):=dP (m:=0) (d:=0) dK dJ dH jn8 (λa=>jqp fuel a)
theorem ju3:OK 3 (Y4 fuel):=dP (m:=1) (d:=1) (bR (bS D7 (bN rfl)) dK) (jG je1 (jG job dJ)) dH jn7 (λa=>jqo fuel a)
theorem ju4:OK 3 (Y5 fuel):=dP (m:=1) (d:=1) (bR (bS D7 (bN rfl)) dK) (jG I8 dJ) dH jn9 (λa=>jqq fuel a)
theorem jut:OK 2 (Y2 fuel):=dP (m:=0) (d:=1) dK (jG I8 dJ) dH jn5 (λa=>jof fuel a)
theorem ju5:OK 4 (Y6 fuel):=dP (m:=3) (d:=0) (bR (bS ju3 (bN rfl)) (bR (bS jut (bN rfl)) (bR (bS ju4 (bN rfl)) dK))) dJ dH joa (λa=>jqr fuel a)
theorem j3d:OK 2 (jcg fuel):=dP (m:=1) (d:=0) (bR (bS D7 (bN rfl)) dK) dJ dH jsq (λa=>jv3 fuel a)
end
end Go.Vm.X.In
