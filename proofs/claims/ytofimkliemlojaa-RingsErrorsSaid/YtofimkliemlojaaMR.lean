/-
  What the row of RingsErrors needs: a ring, a list, a number.
-/
import Derived.Test.YtofimkliemlojaaMS
set_option linter.unusedSimpArgs false
set_option linter.unusedVariables false
set_option linter.unusedSectionVars false
set_option linter.unnecessarySimpa false
namespace Go.Proofs.Ytofimkliemlojaa
open Go.ChangeShapes Go.WideShapes Go.ChangeAt Go.RowKit
namespace Vm
open Go Go.Vm Go.Vm.W Go.Vm.X
set_option maxRecDepth 100000
theorem i64_bd {z:Int} (h:(Lit.int .i64 z).wf=true): -9223372036854775808≤z∧z≤9223372036854775807:=by
 simp[Lit.wf,IntKind.min,IntKind.max,IntKind.signed,IntKind.bits] at h
 omega
theorem cells31:Try.prog.cellsOf 31=2:=by kernel_rfl
theorem cells28:Try.prog.cellsOf 28=1:=by kernel_rfl
theorem cells29:Try.prog.cellsOf 29=1:=by kernel_rfl
theorem cells3:Try.prog.cellsOf 3=1:=by kernel_rfl
theorem cells56:Try.prog.cellsOf 56=1:=by kernel_rfl
theorem open_R {H:Type} {enc:TypeId×Value→H} {W:World} {b0:Nat} {v:Value} {d:DataW H} {p:List MemPlace} (hv:Value.okWide Try.prog W .any b0 31 v) (h:DataW.Trod enc Try.prog W 0 (fun _=>true) true 31 v d p) (hf:W.noneFrozen p):
  ∃(v0 v1:Value) (l0 l1:Vm.Loc) (L0 L1:List Int),v=.agg #[v0,v1]∧(∀x∈L0, -9223372036854775808≤x∧x≤9223372036854775807)∧X.bytes L1∧ArgOK .i64 W v0 l0 L0∧ArgOK .u8 W v1 l1 L1:=by
 obtain⟨cs,rfl,hsz⟩:=okWide_struct Try.underlying31 hv
 obtain⟨c0,c1,rfl⟩:=Joins.array2 (hsz.trans cells31)
 obtain⟨fu,hfu⟩:=h
 obtain⟨z0,z1,m,hx0,_,g0,g1⟩:=trod_struct2 Try.underlying31 hfu
 have g0:DataW.trod enc Try.prog W 0 (fun _=>true) true m 28 [c0]=some z0:=by simpa[Value.cells,cells28] using g0
 have g1:DataW.trod enc Try.prog W 0 (fun _=>true) true m 29 [c1]=some z1:=by simpa[Value.cells,cells28,cells29] using g1
 have hok:∀(i:Nat) (x:Value) (u:TypeId),i<2→(#[c0,c1]:Array Value)[i]?=some x→[28,29][i]?=some u→Cell.okWide Try.prog W .any b0 u x:=by
  simp only[Value.okWide,Try.underlying31] at hv
  obtain⟨cs,e,_,ts,hts,_,hc⟩:=hv
  cases e
  have e2:Try.prog.cellTypes Try.prog.depth 31=some [28,29]:=by kernel_rfl
  rw[e2] at hts
  cases hts
  intro i x u' hi hx hu'
  obtain⟨u,hu,hk⟩:=hc i x hx
  have:u=u':=by
   match i,hi with
   | 0,_=>simp at hu hu';exact hu.symm.trans hu'
   | 1,_=>simp at hu hu';exact hu.symm.trans hu'
  rw[this] at hk
  exact hk
 have e1:p=z0.2++z1.2:=(Prod.mk.injEq _ _ _ _▸hx0:_∧_).2
 obtain⟨l0,L0,w0,a0⟩:=arg_ok Try.underlying28 Try.underlying3 cells3 g0 (hok 0 c0 28 (by omega) rfl rfl) (noneFrozen_of hf fun x hx=>by rw[e1];exact List.mem_append.2 (.inl hx))
 obtain⟨l1,L1,w1,a1⟩:=arg_ok Try.underlying29 Try.underlying56 cells56 g1 (hok 1 c1 29 (by omega) rfl rfl) (noneFrozen_of hf fun x hx=>by rw[e1];exact List.mem_append.2 (.inr hx))
 exact⟨c0,c1,l0,l1,L0,L1,rfl,fun z hz=>i64_bd (w0 z hz),fun z hz=>u8_bd (w1 z hz),a0,a1⟩
theorem open_P {H:Type} {enc:TypeId×Value→H} {W:World} {b0:Nat} {v:Value} {d:DataW H} {p:List MemPlace} (hv:Value.okWide Try.prog W .any b0 28 v) (h:DataW.Trod enc Try.prog W 0 (fun _=>true) true 28 v d p) (hf:W.noneFrozen p):
  ∃(l:Vm.Loc) (L:List Int),ArgOK .i64 W v l L:=by
 simp only[Value.okWide,Try.underlying28] at hv
 obtain⟨fu,h⟩:=h
 have ec:v.cells.toList=[v]:=by
  rcases hv':v with _ | _<;>first | rfl | (subst hv';simp[Cell.okWide,Cell.ok,Try.underlying28] at hv)
 rw[ec] at h
 obtain⟨l,L,w,a⟩:=arg_ok Try.underlying28 Try.underlying3 cells3 h hv hf
 exact⟨l,L,a⟩
abbrev tR:Ty:=.prod (.sl (.int .i64)) (.sl (.int .u8))
theorem law_RPI {m:Nat} {f:FuncId} {run:Dens [.d tR,.d (.sl (.int .i64)),.d (.int .i64)]→Option (Dens [.d .bool])} (ho:∀mx,OKs (BB mx) (told mx) prog m [⟨f,[.d tR,.d (.sl (.int .i64)),.d (.int .i64)],[.d .bool],run⟩]) {i:Int}
  {W:World} {v0 v1 v2:Value} {l0 l1 l2:Vm.Loc} {L0 L1 L2:List Int} (hrun:run ((L0,L1),(L2,i))=some true) (a0:ArgOK .i64 W v0 l0 L0) (a1:ArgOK .u8 W v1 l1 L1) (a2:ArgOK .i64 W v2 l2 L2):
  Calls Try.prog f #[.agg #[v0,v1],v2,.int .i64 i] W fun e W'=>e=.returned (.bool true)∧Below W.heap.size W W':=by
 have hR:=start W [l0,l1,l2]
 have r0:rho1 W 0 [l0,l1,l2] 0=some l0:=rfl
 have r1:rho1 W 0 [l0,l1,l2] 1=some l1:=rfl
 have r2:rho1 W 0 [l0,l1,l2] 2=some l2:=rfl
 obtain⟨H1,O1,u0,A0,q1,q2,q3,q4,q5,q6,q7,q8⟩:=lay_slice a0 r0 hR start_lt start_hk (show nx0≤0 by decide) (by decide) (by simp)
 have n1:∀x∈O1.map Ent.b,x=0:=fun x hx=>by
  rcases q4 _ hx with h1 | h1
  ·exact h1
  ·simp at h1
 obtain⟨H2,O2,u1,A1,j1,j2,j3,j4,j5,j6,j7,j8⟩:=lay_slice a1 r1 q1 q2 q3 (show nx0≤1 by decide) (by decide) (fun h=>by cases n1 _ h)
 have n2:∀x∈O2.map Ent.b,x=1∨x=0:=fun x hx=>by
  rcases j4 _ hx with h1 | h1
  ·exact .inl h1
  ·exact .inr (n1 _ h1)
 obtain⟨H3,O3,u2,A2,k1,k2,k3,k4,k5,k6,k7,k8⟩:=lay_slice a2 r2 j1 j2 j3 (show nx0≤2 by decide) (by decide) (fun h=>by rcases n2 _ h with h | h<;>cases h)
 have s0:∀x∈A0,x∈A0++(A1++A2):=fun x hx=>List.mem_append.2 (.inl hx)
 have s1:∀x∈A1,x∈A0++(A1++A2):=fun x hx=>List.mem_append.2 (.inr (List.mem_append.2 (.inl hx)))
 have s2:∀x∈A2,x∈A0++(A1++A2):=fun x hx=>List.mem_append.2 (.inr (List.mem_append.2 (.inr hx)))
 refine calls_of_TE (t:=⟨f,[.d tR,.d (.sl (.int .i64)),.d (.int .i64)],[.d .bool],run⟩) (told_ok 0) mixed prog_ok (n:=m) (ho 0 _ (List.mem_singleton.2 rfl) m (Nat.le_refl _)) rfl (a:=((L0,L1),(L2,i))) hrun k3 (A:=A0++(A1++A2)) (fun x hx=>?_) (vs:=[.agg [u0,u1],u2,.int .i64 i]) ?_ k1 gl_ok (rho1_free (show 0+3≤RO by decide)) k2 ?_
 ·rcases List.mem_append.1 hx with hx | hx
  ·exact .inl (k6 _ _ (j6 _ _ (q5 x hx)))
  ·rcases List.mem_append.1 hx with hx | hx
   ·exact .inl (k6 _ _ (j5 x hx))
   ·exact .inl (k5 x hx)
 ·refine⟨_,_,[],[],rfl,rfl,⟨[u0,u1],rfl,rfl,⟨[u0],[u1],rfl,⟨u0,rfl,?_⟩,⟨u1,rfl,?_⟩⟩,rfl⟩,_,_,[],[],rfl,rfl,⟨rfl,⟨u2,rfl,?_⟩,rfl⟩,_,rfl,rfl,rfl,rfl⟩
  ·exact SlR_mono s0 (fun _ _=>RelL_mono (RelC_mono s0 (.int .i64))) q7
  ·exact SlR_mono s1 (fun _ _=>RelL_mono (RelC_mono s1 (.int .u8))) j7
  ·exact SlR_mono s2 (fun _ _=>RelL_mono (RelC_mono s2 (.int .i64))) k7
 ·simp only[VRs,VR]
  exact⟨_,_,rfl,⟨_,rfl,_,_,rfl,q8,_,_,rfl,j8,rfl⟩,_,_,rfl,k8,_,_,rfl,rfl,rfl⟩
end Vm
end Go.Proofs.Ytofimkliemlojaa
