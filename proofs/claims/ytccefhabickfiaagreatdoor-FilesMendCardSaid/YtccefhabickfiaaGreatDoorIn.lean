/- Parts of the proof. -/
import Derived.Test.YtccefhabickfiaaGreatDoorProg
import Derived.Test.YtccefhabickfiaaGreatDoorXG7
set_option linter.unusedSimpArgs false
set_option linter.defProp false
set_option linter.unusedVariables false
namespace Go.Vm.X.In
open Go Go.Vm Go.Vm.W Go.Vm.X Go.Proofs
noncomputable section
set_option maxRecDepth 100000
def gl:List Nat:=[1]
def nx0:Nat:=9
def eY:List ((Int×Int)×(Int×(Int×(List (Int×(Int×Int))×((Int×Int)×(Int×Int)))))):=[((0, -1),(2,(0,([(0,(-1,2)),(0,(0,1)),(0,(0,3))],((0,0),(2,0)))))),((1,0),(1,(1,([(1,(0,3)),(0,(0,0)),(0,(0,2))],((2,2),(2,0)))))),((0,1),(2,(1,([(0,(1,0)),(0,(0,3)),(0,(0,1))],((2,2),(0,2)))))),((-1,0),(1,(0,([(-1,(0,1)),(0,(0,2)),(0,(0,0))],((0,0),(0,2))))))]
def GM:List GD:=[⟨1,(.prod (.prod (.int .i64) (.int .i64)) (.prod (.int .u8) (.prod (.int .i64) (.prod (.arr 3 (.prod (.int .i64) (.prod (.int .i64) (.int .u8)))) (.prod (.prod (.int .i64) (.int .i64)) (.prod (.int .i64) (.int .i64))))))),eY⟩]
abbrev GG:bE:=[(gB+1,.fix (.prod (.prod (.int .i64) (.int .i64)) (.prod (.int .u8) (.prod (.int .i64) (.prod (.arr 3 (.prod (.int .i64) (.prod (.int .i64) (.int .u8)))) (.prod (.prod (.int .i64) (.int .i64)) (.prod (.int .i64) (.int .i64))))))) 4 eY)]
def es:List (Nat×List AV):=GM.map λg=>(g.1,g.2.2.flatMap (qH g.2.1))
def BI:Base:=⟨oG es,nx0⟩
noncomputable def xQ:CFn:=gk (cfn Tryz.prog gl Tryz.f33)
def jz4:cfn Tryz.prog gl Tryz.f33=some xQ:=qR (by kernel_rfl)
noncomputable def xI:CFn:=gk (cfn Tryz.prog gl Tryz.f128)
def jzv:cfn Tryz.prog gl Tryz.f128=some xI:=qR (by kernel_rfl)
noncomputable def xJ:CFn:=gk (cfn Tryz.prog gl Tryz.f161)
def jzw:cfn Tryz.prog gl Tryz.f161=some xJ:=qR (by kernel_rfl)
noncomputable def xK:CFn:=gk (cfn Tryz.prog gl Tryz.f167)
def jzx:cfn Tryz.prog gl Tryz.f167=some xK:=qR (by kernel_rfl)
noncomputable def xL:CFn:=gk (cfn Tryz.prog gl Tryz.f168)
def jzy:cfn Tryz.prog gl Tryz.f168=some xL:=qR (by kernel_rfl)
noncomputable def xM:CFn:=gk (cfn Tryz.prog gl Tryz.f169)
def jzz:cfn Tryz.prog gl Tryz.f169=some xM:=qR (by kernel_rfl)
noncomputable def xN:CFn:=gk (cfn Tryz.prog gl Tryz.f170)
def jz0:cfn Tryz.prog gl Tryz.f170=some xN:=qR (by kernel_rfl)
noncomputable def xO:CFn:=gk (cfn Tryz.prog gl Tryz.f171)
def jz1:cfn Tryz.prog gl Tryz.f171=some xO:=qR (by kernel_rfl)
noncomputable def xP:CFn:=gk (cfn Tryz.prog gl Tryz.f188)
def jz2:cfn Tryz.prog gl Tryz.f188=some xP:=qR (by kernel_rfl)
attribute [local irreducible] xQ xI xJ xK xL xM xN xO xP
noncomputable def kl:List (Nat×CFn):=[(33,xQ),(128,xI),(161,xJ),(167,xK),(168,xL),(169,xM),(170,xN),(171,xO),(188,xP)]
noncomputable def prog:Tr CFn:=Fe kl
def Fl:Ib Tryz.prog gl prog:=jcq jmt ⟨⟨Tryz.f33,Tryz.func33,.inl jz4⟩,⟨Tryz.f128,Tryz.func128,.inl jzv⟩,⟨Tryz.f161,Tryz.func161,.inl jzw⟩,⟨Tryz.f167,Tryz.func167,.inl jzx⟩,⟨Tryz.f168,Tryz.func168,.inl jzy⟩,⟨Tryz.f169,Tryz.func169,.inl jzz⟩,⟨Tryz.f170,Tryz.func170,.inl jz0⟩,⟨Tryz.f171,Tryz.func171,.inl jz1⟩,⟨Tryz.f188,Tryz.func188,.inl jz2⟩,trivial⟩
def mixed:Tryz.prog.follows .mixedOrders=true:=by kernel_rfl
def Od:FuncId×Fx:=(33,dC xQ [] ⟨[],[]⟩)
def Oc:FuncId×Fx:=(167,dC xK [] ⟨[],[]⟩)
def Hp:FuncId×Fx:=(170,dC xN [] ⟨[],[]⟩)
def Oh:FuncId×Fx:=(188,dC xP [] ⟨[],[]⟩)
def Of:FuncId×Fx:=(169,dC xM [] ⟨[],[]⟩)
def wJ:FuncId×Fx:=(171,dC xO [] ⟨[],[]⟩)
def Ob:FuncId×Fx:=(168,dC xL [] ⟨[],[]⟩)
def Og:FuncId×Fx:=(128,dC xI [] ⟨[],[]⟩)
def Oe:FuncId×Fx:=(161,dC xJ [] ⟨[],[]⟩)
def iN (N:Nat) (a:(Int×Int)):Option Int:=bif(decide (a.1<1)) then(some 1) else(bif(decide (a.2<1)) then(some 1) else(bif(decide ((256:Int)<a.1)) then(some 1) else(bif(decide ((256:Int)<a.2)) then(some 1) else(aA (aC (a.1*a.2)) (bif(decide ((256:Int)< (a.1*a.2))) then(some 1) else(some 0))))))
abbrev lR (N:Nat):TE:=⟨33,[(.d (.prod (.int .i64) (.int .i64)))],[(.d (.int .i64))],iN N⟩
def Vb:∀N a,lP N (hnd N [] [] 0) GG Od.2 (lR N).ins (lR N).outs a=iN N a:=λN a=>by kernel_rfl
def vZ (N:Nat) (a:((Int×Int)×Int)):Option ((Int×(Int×Int))×Int):=(iN N (a.1.1,a.1.2)).bind λr1=>bif(decide (r1≠0)) then(some ((0,(0,0)),r1)) else(bif(decide ((0:Int)<=a.2)) then(aA (aC (4*a.1.1)) (aA (aC ((4*a.1.1)*a.1.2)) (bif(!(decide (a.2< ((4*a.1.1)*a.1.2)))) then(some ((0,(0,0)),7)) else(aA (decide (0<=a.2)&&decide (0< (4:Int))&&decide (IntKind.i64.wrap (a.2 / (4:Int))=a.2 / (4:Int))) (aA (decide (0<=(a.2 / 4))&&decide (0<a.1.1)) (aA (decide (0<=a.2)&&decide (0< (4:Int))&&decide (IntKind.i64.wrap (a.2 / (4:Int))=a.2 / (4:Int))) (aA (decide (0<=(a.2 / 4))&&decide (0<a.1.1)&&decide (IntKind.i64.wrap ((a.2 / 4) / a.1.1)=(a.2 / 4) / a.1.1)) (aA (decide (0<=a.2)&&decide (0< (4:Int))) (some ((((a.2 / 4)%a.1.1),(((a.2 / 4) / a.1.1),(IntKind.u8.wrap (a.2%4)))),0)))))))))) else(some ((0,(0,0)),7)))
abbrev wC (N:Nat):TE:=⟨167,[(.d (.prod (.int .i64) (.int .i64))),(.d (.int .i64))],[(.d (.prod (.int .i64) (.prod (.int .i64) (.int .u8)))),(.d (.int .i64))],vZ N⟩
def Va:∀N a,lP N (hnd N [lR N] [Hp,Oh] 1) GG Oc.2 (wC N).ins (wC N).outs a=vZ N a:=λN a=>by kernel_rfl
def Gq (N:Nat) (a:((Int×Int)×(Int×(Int×Int)))):Option (Int×Int):=(iN N (a.1.1,a.1.2)).bind λr1=>bif(decide (r1≠0)) then(some (0,r1)) else(bif(decide (a.2.1< (-4096))) then(some (0,7)) else(bif(decide ((4096:Int)<a.2.1)) then(some (0,7)) else(bif(decide (a.2.2.1< (-4096))) then(some (0,7)) else(bif(decide ((4096:Int)<a.2.2.1)) then(some (0,7)) else(bif(decide ((3:Int)<a.2.2.2)) then(some (0,7)) else(bif(decide (a.2.1<0)) then(some (0,7)) else(bif(decide (a.1.1<=a.2.1)) then(some (0,7)) else(bif(decide (a.2.2.1<0)) then(some (0,7)) else(bif(decide (a.1.2<=a.2.2.1)) then(some (0,7)) else(aA (aC (a.2.2.1*a.1.1)) (aA (aC ((a.2.2.1*a.1.1)+a.2.1)) (aA (aC (4* ((a.2.2.1*a.1.1)+a.2.1))) (aA (aC a.2.2.2) (aA (aC ((4* ((a.2.2.1*a.1.1)+a.2.1))+a.2.2.2)) (some (((4* ((a.2.2.1*a.1.1)+a.2.1))+a.2.2.2),0))))))))))))))))
abbrev wD (N:Nat):TE:=⟨169,[(.d (.prod (.int .i64) (.int .i64))),(.d (.prod (.int .i64) (.prod (.int .i64) (.int .u8))))],[(.d (.int .i64)),(.d (.int .i64))],Gq N⟩
def Vc:∀N a,lP N (hnd N [lR N] [wJ] 1) GG Of.2 (wD N).ins (wD N).outs a=Gq N a:=λN a=>by kernel_rfl
def wW (N:Nat) (a:((Int×(Int×Int))×Int)):Option ((Int×(Int×Int))×Int):=bif(decide (a.1.1< (-4096))) then(some ((0,(0,0)),1)) else(bif(decide ((4096:Int)<a.1.1)) then(some ((0,(0,0)),1)) else(bif(decide (a.1.2.1< (-4096))) then(some ((0,(0,0)),1)) else(bif(decide ((4096:Int)<a.1.2.1)) then(some ((0,(0,0)),1)) else(bif(decide ((3:Int)<a.1.2.2)) then(some ((0,(0,0)),1)) else(bif(decide ((2:Int)<a.2)) then(some ((0,(0,0)),1)) else(aA (aI a.1.2.2 4) (aA (aI a.2 3) (aA (aC (((eY.getD a.1.2.2.toNat ((0,0),(0,(0,((List.replicate 3 (0,(0,0))),((0,0),(0,0))))))).2.2.2.1.getD a.2.toNat (0,(0,0))).1+a.1.1)) (aA (aC (((eY.getD a.1.2.2.toNat ((0,0),(0,(0,((List.replicate 3 (0,(0,0))),((0,0),(0,0))))))).2.2.2.1.getD a.2.toNat (0,(0,0))).2.1+a.1.2.1)) (bif(decide ((((eY.getD a.1.2.2.toNat ((0,0),(0,(0,((List.replicate 3 (0,(0,0))),((0,0),(0,0))))))).2.2.2.1.getD a.2.toNat (0,(0,0))).1+a.1.1)< (-4096))) then(some ((0,(0,0)),3)) else(bif(decide ((4096:Int)< (((eY.getD a.1.2.2.toNat ((0,0),(0,(0,((List.replicate 3 (0,(0,0))),((0,0),(0,0))))))).2.2.2.1.getD a.2.toNat (0,(0,0))).1+a.1.1))) then(some ((0,(0,0)),3)) else(bif(decide ((((eY.getD a.1.2.2.toNat ((0,0),(0,(0,((List.replicate 3 (0,(0,0))),((0,0),(0,0))))))).2.2.2.1.getD a.2.toNat (0,(0,0))).2.1+a.1.2.1)< (-4096))) then(some ((0,(0,0)),3)) else(bif(decide ((4096:Int)< (((eY.getD a.1.2.2.toNat ((0,0),(0,(0,((List.replicate 3 (0,(0,0))),((0,0),(0,0))))))).2.2.2.1.getD a.2.toNat (0,(0,0))).2.1+a.1.2.1))) then(some ((0,(0,0)),3)) else(bif(decide ((3:Int)< ((eY.getD a.1.2.2.toNat ((0,0),(0,(0,((List.replicate 3 (0,(0,0))),((0,0),(0,0))))))).2.2.2.1.getD a.2.toNat (0,(0,0))).2.2)) then(some ((0,(0,0)),3)) else(some (((((eY.getD a.1.2.2.toNat ((0,0),(0,(0,((List.replicate 3 (0,(0,0))),((0,0),(0,0))))))).2.2.2.1.getD a.2.toNat (0,(0,0))).1+a.1.1),((((eY.getD a.1.2.2.toNat ((0,0),(0,(0,((List.replicate 3 (0,(0,0))),((0,0),(0,0))))))).2.2.2.1.getD a.2.toNat (0,(0,0))).2.1+a.1.2.1),((eY.getD a.1.2.2.toNat ((0,0),(0,(0,((List.replicate 3 (0,(0,0))),((0,0),(0,0))))))).2.2.2.1.getD a.2.toNat (0,(0,0))).2.2)),0))))))))))))))))
abbrev wB (N:Nat):TE:=⟨168,[(.d (.prod (.int .i64) (.prod (.int .i64) (.int .u8)))),(.d (.int .u8))],[(.d (.prod (.int .i64) (.prod (.int .i64) (.int .u8)))),(.d (.int .i64))],wW N⟩
def Px:∀N a,lP N (hnd N [] [wJ] 1) GG Ob.2 (wB N).ins (wB N).outs a=wW N a:=λN a=>by kernel_rfl
def sheets_Neighbour (N:Nat) (a:((Int×Int)×(Int×Int))):Option (Int×Int):=(vZ N ((a.1.1,a.1.2),a.2.1)).bind λr1=>bif(decide (r1.2≠0)) then(some (0,r1.2)) else((wW N ((r1.1.1,(r1.1.2.1,r1.1.2.2)),a.2.2)).bind λr2=>bif(decide (r2.2≠0)) then(some (0,1)) else((Gq N ((a.1.1,a.1.2),(r2.1.1,(r2.1.2.1,r2.1.2.2)))).bind λr3=>some (r3.1,r3.2)))
abbrev wE (N:Nat):TE:=⟨128,[(.d (.prod (.int .i64) (.int .i64))),(.d (.int .i64)),(.d (.int .u8))],[(.d (.int .i64)),(.d (.int .i64))],sheets_Neighbour N⟩
def Vd:∀N a,lP N (hnd N [wC N,wB N,wD N] [] 0) GG Og.2 (wE N).ins (wE N).outs a=sheets_Neighbour N a:=λN a=>by kernel_rfl
def sheets_Count (N:Nat) (a:(Int×Int)):Option Int:=(iN N (a.1,a.2)).bind λr1=>bif(decide (r1≠0)) then(some 0) else(aA (aC (4*a.1)) (aA (aC ((4*a.1)*a.2)) (some ((4*a.1)*a.2))))
abbrev Ck (N:Nat):TE:=⟨161,[(.d (.prod (.int .i64) (.int .i64)))],[(.d (.int .i64))],sheets_Count N⟩
def jdj:∀N a,lP N (hnd N [lR N] [] 0) GG Oe.2 (Ck N).ins (Ck N).outs a=sheets_Count N a:=λN a=>by kernel_rfl
def Sc:dX:=λ_ _=>none
def j1c:iX Tryz.prog gl BI Sc:=λf az g h=>by cases h
def eO:GRel BI vG GG:=jj5 (B:=BI) (es:=es) rfl (l:=GM) (by kernel_rfl) (by kernel_rfl)
abbrev OK (l:Nat) (t:TE):Prop:=cE (BI) Sc prog l [t]
abbrev CK (x:FuncId×Fx):Prop:=(∀vs,Sc x.1 vs=none)/\prog.get x.1=some x.2.cfn
def Pq:CK Od:=⟨λ_=>rfl,by kernel_rfl⟩
def Ps:CK Og:=⟨λ_=>rfl,by kernel_rfl⟩
def Yo:CK Oe:=⟨λ_=>rfl,by kernel_rfl⟩
def Pp:CK Oc:=⟨λ_=>rfl,by kernel_rfl⟩
def Pn:CK Ob:=⟨λ_=>rfl,by kernel_rfl⟩
def Pr:CK Of:=⟨λ_=>rfl,by kernel_rfl⟩
def Df:CK Hp:=⟨λ_=>rfl,by kernel_rfl⟩
def rZ:CK wJ:=⟨λ_=>rfl,by kernel_rfl⟩
def Pt:CK Oh:=⟨λ_=>rfl,by kernel_rfl⟩
def qX:OK 1 (lR fuel):=fQ (m:=0) (d:=0) bH bG eO Pq (λa=>Vb fuel a)
def jcb:OK 3 (wC fuel):=fQ (m:=1) (d:=1) (wN (wO qX (pT rfl)) bH) (dJ Df (dJ Pt bG)) eO Pp (λa=>Va fuel a)
def jcc:OK 3 (wD fuel):=fQ (m:=1) (d:=1) (wN (wO qX (pT rfl)) bH) (dJ rZ bG) eO Pr (λa=>Vc fuel a)
def jb6:OK 2 (wB fuel):=fQ (m:=0) (d:=1) bH (dJ rZ bG) eO Pn (λa=>Px fuel a)
def jcd:OK 4 (wE fuel):=fQ (m:=3) (d:=0) (wN (wO jcb (pT rfl)) (wN (wO jb6 (pT rfl)) (wN (wO jcc (pT rfl)) bH))) bG eO Ps (λa=>Vd fuel a)
def jnh:OK 2 (Ck fuel):=fQ (m:=1) (d:=0) (wN (wO qX (pT rfl)) bH) bG eO Yo (λa=>jdj fuel a)
end
end Go.Vm.X.In
