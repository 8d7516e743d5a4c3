/-
  The inner machine for a sheet's units: sheets.Neighbour and sheets.Count, with their contracts. (Printed by a program.)
-/
import Derived.Test.YtonohffniohehaaGreatDoorProg
import Derived.Test.YtonohffniohehaaGreatDoorXG7
set_option linter.unusedSimpArgs false
set_option linter.unusedVariables false
set_option linter.unusedSectionVars false
set_option linter.unnecessarySimpa false
namespace Go.Vm.X.In
open Go Go.Vm Go.Vm.W Go.Vm.X Go.Proofs
noncomputable section
set_option maxRecDepth 100000
def gl:List Nat:=[2]
def nx0:Nat:=10
def jax:List ((Int×Int)×(Int×(Int×(List (Int×(Int×Int))×((Int×Int)×(Int×Int)))))):=[((0, -1),(2,(0,([(0,(-1,2)),(0,(0,1)),(0,(0,3))],((0,0),(2,0)))))),((1,0),(1,(1,([(1,(0,3)),(0,(0,0)),(0,(0,2))],((2,2),(2,0)))))),((0,1),(2,(1,([(0,(1,0)),(0,(0,3)),(0,(0,1))],((2,2),(0,2)))))),((-1,0),(1,(0,([(-1,(0,1)),(0,(0,2)),(0,(0,0))],((0,0),(0,2))))))]
def GM:List GD:=[⟨2,(.prod (.prod (.int .i64) (.int .i64)) (.prod (.int .u8) (.prod (.int .i64) (.prod (.arr 3 (.prod (.int .i64) (.prod (.int .i64) (.int .u8)))) (.prod (.prod (.int .i64) (.int .i64)) (.prod (.int .i64) (.int .i64))))))),jax⟩]
abbrev GG:Mem:=[(gB+2,.fix (.prod (.prod (.int .i64) (.int .i64)) (.prod (.int .u8) (.prod (.int .i64) (.prod (.arr 3 (.prod (.int .i64) (.prod (.int .i64) (.int .u8)))) (.prod (.prod (.int .i64) (.int .i64)) (.prod (.int .i64) (.int .i64))))))) 4 jax)]
def es:List (Nat×List AV):=GM.map fun g=>(g.1,g.2.2.flatMap (jh3 g.2.1))
def BI:Base:=⟨jjx es,nx0⟩
noncomputable def k31:CFn:=gk (cfn Tryz.prog gl Tryz.f31)
theorem kbf:cfn Tryz.prog gl Tryz.f31=some k31:=jap (by kernel_rfl)
noncomputable def k91:CFn:=gk (cfn Tryz.prog gl Tryz.f91)
theorem kbe:cfn Tryz.prog gl Tryz.f91=some k91:=jap (by kernel_rfl)
noncomputable def kdf:CFn:=gk (cfn Tryz.prog gl Tryz.f130)
theorem j45:cfn Tryz.prog gl Tryz.f130=some kdf:=jap (by kernel_rfl)
noncomputable def kde:CFn:=gk (cfn Tryz.prog gl Tryz.f133)
theorem j44:cfn Tryz.prog gl Tryz.f133=some kde:=jap (by kernel_rfl)
noncomputable def kdd:CFn:=gk (cfn Tryz.prog gl Tryz.f134)
theorem j43:cfn Tryz.prog gl Tryz.f134=some kdd:=jap (by kernel_rfl)
noncomputable def kdc:CFn:=gk (cfn Tryz.prog gl Tryz.f135)
theorem j42:cfn Tryz.prog gl Tryz.f135=some kdc:=jap (by kernel_rfl)
noncomputable def kdb:CFn:=gk (cfn Tryz.prog gl Tryz.f136)
theorem j41:cfn Tryz.prog gl Tryz.f136=some kdb:=jap (by kernel_rfl)
noncomputable def kda:CFn:=gk (cfn Tryz.prog gl Tryz.f137)
theorem j40:cfn Tryz.prog gl Tryz.f137=some kda:=jap (by kernel_rfl)
noncomputable def kc9:CFn:=gk (cfn Tryz.prog gl Tryz.f159)
theorem j4z:cfn Tryz.prog gl Tryz.f159=some kc9:=jap (by kernel_rfl)
attribute [local irreducible] k31 k91 kdf kde kdd kdc kdb kda kc9
noncomputable def kl:List (Nat×CFn):=[(31,k31),(91,k91),(130,kdf),(133,kde),(134,kdd),(135,kdc),(136,kdb),(137,kda),(159,kc9)]
noncomputable def prog:Tr CFn:=ofK kl
theorem ju1:j3l Tryz.prog gl prog:=ju2 j6j ⟨⟨Tryz.f31,Tryz.func31,.inl kbf⟩,⟨Tryz.f91,Tryz.func91,.inl kbe⟩,⟨Tryz.f130,Tryz.func130,.inl j45⟩,⟨Tryz.f133,Tryz.func133,.inl j44⟩,⟨Tryz.f134,Tryz.func134,.inl j43⟩,⟨Tryz.f135,Tryz.func135,.inl j42⟩,⟨Tryz.f136,Tryz.func136,.inl j41⟩,⟨Tryz.f137,Tryz.func137,.inl j40⟩,⟨Tryz.f159,Tryz.func159,.inl j4z⟩,trivial⟩
theorem mixed:Tryz.prog.follows .mixedOrders=true:=by kernel_rfl
def je8:FuncId×Fx:=(31,jci k31 [] ⟨[],[]⟩)
def jf1:FuncId×Fx:=(133,jci kde [] ⟨[],[]⟩)
def jbx:FuncId×Fx:=(136,jci kdb [] ⟨[],[]⟩)
def jcu:FuncId×Fx:=(159,jci kc9 [] ⟨[],[]⟩)
def jix:FuncId×Fx:=(135,jci kdc [] ⟨[],[]⟩)
def jcd:FuncId×Fx:=(137,jci kda [] ⟨[],[]⟩)
def jc9:FuncId×Fx:=(134,jci kdd [] ⟨[],[]⟩)
def jcv:FuncId×Fx:=(91,jci k91 [] ⟨[],[]⟩)
def je7:FuncId×Fx:=(130,jci kdf [] ⟨[],[]⟩)
def jao (N:Nat) (a:(Int×Int)):Option Int:=bif(decide (a.1<1)) then(some 1) else(bif(decide (a.2<1)) then(some 1) else(bif(decide ((256:Int)<a.1)) then(some 1) else(bif(decide ((256:Int)<a.2)) then(some 1) else(chk (jal (a.1*a.2)) (bif(decide ((256:Int)< (a.1*a.2))) then(some 1) else(some 0))))))
abbrev jar (N:Nat):TE:=⟨31,[(.d (.prod (.int .i64) (.int .i64)))],[(.d (.int .i64))],jao N⟩
theorem ji7:∀N a,jc7 N (hnd N [] [] 0) GG je8.2 (jar N).ins (jar N).outs a=jao N a:=fun N a=>by kernel_rfl
def jc3 (N:Nat) (a:((Int×Int)×Int)):Option ((Int×(Int×Int))×Int):=(jao N (a.1.1,a.1.2)).bind fun r1=>bif(decide (r1≠0)) then(some ((0,(0,0)),r1)) else(bif(decide ((0:Int)≤a.2)) then(chk (jal (4*a.1.1)) (chk (jal ((4*a.1.1)*a.1.2)) (bif(!(decide (a.2< ((4*a.1.1)*a.1.2)))) then(some ((0,(0,0)),7)) else(chk (decide (0≤a.2)&&decide (0< (4:Int))&&decide (IntKind.i64.wrap (a.2 / (4:Int))=a.2 / (4:Int))) (chk (decide (0≤(a.2 / 4))&&decide (0<a.1.1)) (chk (decide (0≤a.2)&&decide (0< (4:Int))&&decide (IntKind.i64.wrap (a.2 / (4:Int))=a.2 / (4:Int))) (chk (decide (0≤(a.2 / 4))&&decide (0<a.1.1)&&decide (IntKind.i64.wrap ((a.2 / 4) / a.1.1)=(a.2 / 4) / a.1.1)) (chk (decide (0≤a.2)&&decide (0< (4:Int))) (some ((((a.2 / 4)%a.1.1),(((a.2 / 4) / a.1.1),(IntKind.u8.wrap (a.2%4)))),0)))))))))) else(some ((0,(0,0)),7)))
abbrev jce (N:Nat):TE:=⟨133,[(.d (.prod (.int .i64) (.int .i64))),(.d (.int .i64))],[(.d (.prod (.int .i64) (.prod (.int .i64) (.int .u8)))),(.d (.int .i64))],jc3 N⟩
theorem jj3:∀N a,jc7 N (hnd N [jar N] [jbx,jcu] 1) GG jf1.2 (jce N).ins (jce N).outs a=jc3 N a:=fun N a=>by kernel_rfl
def ji5 (N:Nat) (a:((Int×Int)×(Int×(Int×Int)))):Option (Int×Int):=(jao N (a.1.1,a.1.2)).bind fun r1=>bif(decide (r1≠0)) then(some (0,r1)) else(bif(decide (a.2.1< (-4096))) then(some (0,7)) else(bif(decide ((4096:Int)<a.2.1)) then(some (0,7)) else(bif(decide (a.2.2.1< (-4096))) then(some (0,7)) else(bif(decide ((4096:Int)<a.2.2.1)) then(some (0,7)) else(bif(decide ((3:Int)<a.2.2.2)) then(some (0,7)) else(bif(decide (a.2.1<0)) then(some (0,7)) else(bif(decide (a.1.1≤a.2.1)) then(some (0,7)) else(bif(decide (a.2.2.1<0)) then(some (0,7)) else(bif(decide (a.1.2≤a.2.2.1)) then(some (0,7)) else(chk (jal (a.2.2.1*a.1.1)) (chk (jal ((a.2.2.1*a.1.1)+a.2.1)) (chk (jal (4* ((a.2.2.1*a.1.1)+a.2.1))) (chk (jal a.2.2.2) (chk (jal ((4* ((a.2.2.1*a.1.1)+a.2.1))+a.2.2.2)) (some (((4* ((a.2.2.1*a.1.1)+a.2.1))+a.2.2.2),0))))))))))))))))
abbrev jdn (N:Nat):TE:=⟨135,[(.d (.prod (.int .i64) (.int .i64))),(.d (.prod (.int .i64) (.prod (.int .i64) (.int .u8))))],[(.d (.int .i64)),(.d (.int .i64))],ji5 N⟩
theorem jmm:∀N a,jc7 N (hnd N [jar N] [jcd] 1) GG jix.2 (jdn N).ins (jdn N).outs a=ji5 N a:=fun N a=>by kernel_rfl
def jbp (N:Nat) (a:((Int×(Int×Int))×Int)):Option ((Int×(Int×Int))×Int):=bif(decide (a.1.1< (-4096))) then(some ((0,(0,0)),1)) else(bif(decide ((4096:Int)<a.1.1)) then(some ((0,(0,0)),1)) else(bif(decide (a.1.2.1< (-4096))) then(some ((0,(0,0)),1)) else(bif(decide ((4096:Int)<a.1.2.1)) then(some ((0,(0,0)),1)) else(bif(decide ((3:Int)<a.1.2.2)) then(some ((0,(0,0)),1)) else(bif(decide ((2:Int)<a.2)) then(some ((0,(0,0)),1)) else(chk (inb a.1.2.2 4) (chk (inb a.2 3) (chk (jal (((jax.getD a.1.2.2.toNat ((0,0),(0,(0,((List.replicate 3 (0,(0,0))),((0,0),(0,0))))))).2.2.2.1.getD a.2.toNat (0,(0,0))).1+a.1.1)) (chk (jal (((jax.getD a.1.2.2.toNat ((0,0),(0,(0,((List.replicate 3 (0,(0,0))),((0,0),(0,0))))))).2.2.2.1.getD a.2.toNat (0,(0,0))).2.1+a.1.2.1)) (bif(decide ((((jax.getD a.1.2.2.toNat ((0,0),(0,(0,((List.replicate 3 (0,(0,0))),((0,0),(0,0))))))).2.2.2.1.getD a.2.toNat (0,(0,0))).1+a.1.1)< (-4096))) then(some ((0,(0,0)),3)) else(bif(decide ((4096:Int)< (((jax.getD a.1.2.2.toNat ((0,0),(0,(0,((List.replicate 3 (0,(0,0))),((0,0),(0,0))))))).2.2.2.1.getD a.2.toNat (0,(0,0))).1+a.1.1))) then(some ((0,(0,0)),3)) else(bif(decide ((((jax.getD a.1.2.2.toNat ((0,0),(0,(0,((List.replicate 3 (0,(0,0))),((0,0),(0,0))))))).2.2.2.1.getD a.2.toNat (0,(0,0))).2.1+a.1.2.1)< (-4096))) then(some ((0,(0,0)),3)) else(bif(decide ((4096:Int)< (((jax.getD a.1.2.2.toNat ((0,0),(0,(0,((List.replicate 3 (0,(0,0))),((0,0),(0,0))))))).2.2.2.1.getD a.2.toNat (0,(0,0))).2.1+a.1.2.1))) then(some ((0,(0,0)),3)) else(bif(decide ((3:Int)< ((jax.getD a.1.2.2.toNat ((0,0),(0,(0,((List.replicate 3 (0,(0,0))),((0,0),(0,0))))))).2.2.2.1.getD a.2.toNat (0,(0,0))).2.2)) then(some ((0,(0,0)),3)) else(some (((((jax.getD a.1.2.2.toNat ((0,0),(0,(0,((List.replicate 3 (0,(0,0))),((0,0),(0,0))))))).2.2.2.1.getD a.2.toNat (0,(0,0))).1+a.1.1),((((jax.getD a.1.2.2.toNat ((0,0),(0,(0,((List.replicate 3 (0,(0,0))),((0,0),(0,0))))))).2.2.2.1.getD a.2.toNat (0,(0,0))).2.1+a.1.2.1),((jax.getD a.1.2.2.toNat ((0,0),(0,(0,((List.replicate 3 (0,(0,0))),((0,0),(0,0))))))).2.2.2.1.getD a.2.toNat (0,(0,0))).2.2)),0))))))))))))))))
abbrev jbe (N:Nat):TE:=⟨134,[(.d (.prod (.int .i64) (.prod (.int .i64) (.int .u8)))),(.d (.int .u8))],[(.d (.prod (.int .i64) (.prod (.int .i64) (.int .u8)))),(.d (.int .i64))],jbp N⟩
theorem jgn:∀N a,jc7 N (hnd N [] [jcd] 1) GG jc9.2 (jbe N).ins (jbe N).outs a=jbp N a:=fun N a=>by kernel_rfl
def sheets_Neighbour (N:Nat) (a:((Int×Int)×(Int×Int))):Option (Int×Int):=(jc3 N ((a.1.1,a.1.2),a.2.1)).bind fun r1=>bif(decide (r1.2≠0)) then(some (0,r1.2)) else((jbp N ((r1.1.1,(r1.1.2.1,r1.1.2.2)),a.2.2)).bind fun r2=>bif(decide (r2.2≠0)) then(some (0,1)) else((ji5 N ((a.1.1,a.1.2),(r2.1.1,(r2.1.2.1,r2.1.2.2)))).bind fun r3=>some (r3.1,r3.2)))
abbrev ja5 (N:Nat):TE:=⟨91,[(.d (.prod (.int .i64) (.int .i64))),(.d (.int .i64)),(.d (.int .u8))],[(.d (.int .i64)),(.d (.int .i64))],sheets_Neighbour N⟩
theorem jfo:∀N a,jc7 N (hnd N [jce N,jbe N,jdn N] [] 0) GG jcv.2 (ja5 N).ins (ja5 N).outs a=sheets_Neighbour N a:=fun N a=>by kernel_rfl
def sheets_Count (N:Nat) (a:(Int×Int)):Option Int:=(jao N (a.1,a.2)).bind fun r1=>bif(decide (r1≠0)) then(some 0) else(chk (jal (4*a.1)) (chk (jal ((4*a.1)*a.2)) (some ((4*a.1)*a.2))))
abbrev jcg (N:Nat):TE:=⟨130,[(.d (.prod (.int .i64) (.int .i64)))],[(.d (.int .i64))],sheets_Count N⟩
theorem ji6:∀N a,jc7 N (hnd N [jar N] [] 0) GG je7.2 (jcg N).ins (jcg N).outs a=sheets_Count N a:=fun N a=>by kernel_rfl
def kd7:jn7:=fun _ _=>none
theorem khp:jhz Tryz.prog gl BI kd7:=fun f az g h=>by cases h
theorem gok:GRel BI nu0 GG:=kf9 (B:=BI) (es:=es) rfl (l:=GM) (by kernel_rfl) (by kernel_rfl)
abbrev OK (l:Nat) (t:TE):Prop:=OKs (BI) kd7 prog l [t]
abbrev CK (x:FuncId×Fx):Prop:=(∀vs,kd7 x.1 vs=none)∧prog.get x.1=some x.2.cfn
theorem jj8:CK je8:=⟨fun _=>rfl,by kernel_rfl⟩
theorem jgq:CK jcv:=⟨fun _=>rfl,by kernel_rfl⟩
theorem jj7:CK je7:=⟨fun _=>rfl,by kernel_rfl⟩
theorem jlb:CK jf1:=⟨fun _=>rfl,by kernel_rfl⟩
theorem jhb:CK jc9:=⟨fun _=>rfl,by kernel_rfl⟩
theorem jpk:CK jix:=⟨fun _=>rfl,by kernel_rfl⟩
theorem jdx:CK jbx:=⟨fun _=>rfl,by kernel_rfl⟩
theorem jdy:CK jcd:=⟨fun _=>rfl,by kernel_rfl⟩
theorem jgp:CK jcu:=⟨fun _=>rfl,by kernel_rfl⟩
theorem jbc:OK 1 (jar fuel):=ja1 (m:=0) (d:=0) jai jad gok jj8 (fun a=>ji7 fuel a)
theorem jk1:OK 3 (jce fuel):=ja1 (m:=1) (d:=1) (jab (jag jbc (Nat.le_of_ble_eq_true rfl)) jai) (jam jdx (jam jgp jad)) gok jlb (fun a=>jj3 fuel a)
theorem jpc:OK 3 (jdn fuel):=ja1 (m:=1) (d:=1) (jab (jag jbc (Nat.le_of_ble_eq_true rfl)) jai) (jam jdy jad) gok jpk (fun a=>jmm fuel a)
theorem jg6:OK 2 (jbe fuel):=ja1 (m:=0) (d:=1) jai (jam jdy jad) gok jhb (fun a=>jgn fuel a)
theorem jgh:OK 4 (ja5 fuel):=ja1 (m:=3) (d:=0) (jab (jag jk1 (Nat.le_of_ble_eq_true rfl)) (jab (jag jg6 (Nat.le_of_ble_eq_true rfl)) (jab (jag jpc (Nat.le_of_ble_eq_true rfl)) jai))) jad gok jgq (fun a=>jfo fuel a)
theorem jor:OK 2 (jcg fuel):=ja1 (m:=1) (d:=0) (jab (jag jbc (Nat.le_of_ble_eq_true rfl)) jai) jad gok jj7 (fun a=>ji6 fuel a)
end
end Go.Vm.X.In
