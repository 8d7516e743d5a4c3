/-
  What the rows of this chapter need: slice arguments, the start, the call.
-/
import Derived.Test.YtofimkliemlojaaQ8
import Derived.Test.YtofimkliemlojaaXG7
import Derived.Lib.SmallJoins
import Derived.ProofKit
import Derived.Handed
import Derived.ChangeMaps
import Derived.Test.YtofimkliemlojaaRB
set_option linter.unusedSimpArgs false
set_option linter.unusedVariables false
set_option linter.unusedSectionVars false
set_option linter.unnecessarySimpa false
namespace Go.Proofs.Ytofimkliemlojaa
open Go.ChangeShapes Go.WideShapes Go.ChangeAt Go.RowKit
namespace Vm
open Go Go.Vm Go.Vm.W Go.Vm.X
set_option maxRecDepth 100000
theorem own:ownKnob Try.prog.godebug=none:=by kernel_rfl
theorem laidOut:laidOutB Try.prog=true:=by kernel_rfl
def ArgOK (k:IntKind) (W:World) (v:Value) (l:Vm.Loc) (L:List Int):Prop:=(v=.slice none 0 0∧L=[])∨∃cap off,v=.slice (some ⟨l.blk,off,none⟩) L.length cap∧L.length≤cap∧(off=l.base∨cap=0)∧l.base+cap=l.lim∧
 ∀ρ,Blk.Rel false ρ (.cells (put (L.map (AV.int k)) 0 .e) L.length) l W
theorem arg_ok {k:IntKind} {H:Type} {enc:TypeId×Value→H} {W:World} {fuel b0:Nat} {t e:TypeId} {v:Value} {x:DataW H×List MemPlace} (ht:Try.prog.underlying t=some (.slice e)) (he:Try.prog.underlying e=some (.int k)) (hc:Try.prog.cellsOf e=1)
  (h:DataW.trod enc Try.prog W 0 (fun _=>true) true fuel t [v]=some x) (hok:Cell.okWide Try.prog W .any b0 t v) (hfz:W.noneFrozen x.2):∃l L,(∀z∈L,(Lit.int k z).wf=true)∧ArgOK k W v l L:=by
 rcases slice_arg ht he hc h hok hfz with rfl | ⟨L,cap,off,blk,base,lim,h1,h2,h3,h4,h5,h6⟩
 ·exact⟨⟨0,0,0⟩,[],(fun z hz=>by cases hz),.inl ⟨rfl,rfl⟩⟩
 ·exact⟨⟨blk,base,lim⟩,L,h1,.inr ⟨cap,off,h2,h3,h4,h5,h6⟩⟩
theorem HK_lay {B:Base} {ro nx:Nat} {O:List Ent} {H:Tr Blk} (h:HK B ro O H nx) {b:Nat} (h0:B.nx0≤b) (hb:b<nx) (hn:b∉O.map Ent.b) (l:List AV):HK B ro (⟨b,false,.cells l⟩::O) (H.set b (.cells (put l 0 .e) l.length)) nx:=by
 refine⟨h.r0,h.r1,fun x hx=>by rw[Tr.get_set,if_neg (by omega),h.base x hx],fun e he=>?_,by simp only[List.map_cons,List.nodup_cons];exact⟨hn,h.nd⟩⟩
 rcases List.mem_cons.1 he with rfl | he
 ·exact⟨hb,(fun hw=>by cases hw),At_new⟩
 ·obtain⟨e1,e2,e3⟩:=h.ent e he
  refine⟨e1,e2,e3.congr ?_⟩
  rw[Tr.get_set,if_neg fun e=>hn (List.mem_map.2 ⟨_,he,e⟩)]
theorem lay_slice {k:IntKind} {B:Base} {ρ:RM} {H:Tr Blk} {W:World} {O:List Ent} {b:Nat} {v:Value} {l:Vm.Loc} {L:List Int} (ha:ArgOK k W v l L) (hl:ρ b=some l) (hR:HR ρ H W) (hlt:∀x,(H.get x).isSome→x<RO) (hk:HK B RO O H RO) (h0:B.nx0≤b) (hb:b<RO) (hn:b∉O.map Ent.b):
  ∃H' O' av A,HR ρ H' W∧(∀x,(H'.get x).isSome→x<RO)∧HK B RO O' H' RO∧(∀x∈O'.map Ent.b,x=b∨x∈O.map Ent.b)∧(∀x∈(A:Facts),Has O' x.1 x.2)∧(∀c x,Has O c x→Has O' c x)∧SlR A 1 (RelL (RelC A (.int k))) L av∧VR ρ av v:=by
 rcases ha with⟨rfl,rfl⟩ | ⟨cap,off,rfl,h1,h2,h3,h4⟩
 ·exact⟨H,O,.nils,[],hR,hlt,hk,fun x h=>.inr h,(fun x hx=>by cases hx),fun _ _ h=>h,.inl ⟨rfl,rfl⟩,by simp[VR]⟩
 ·have e1:(L.map (AV.int k)).length=L.length:=by simp
  obtain⟨q1,q2⟩:=HR_add hR hlt hb hl (h4 ρ)
  refine⟨_,⟨b,false,.cells (L.map (AV.int k))⟩::O,.sl b 0 L.length (some cap) 1,[(b,.cells (L.map (AV.int k)))],q1,q2,?_,fun x hx=>?_,fun x hx=>?_,fun _ _ h=>.there h,.inr ⟨b,0,some cap,_,rfl,List.mem_singleton.2 rfl,fun c hc=>by cases hc;exact h1,by simp,?_⟩,?_⟩
  ·have:=HK_lay hk h0 hb hn (L.map (AV.int k))
   rw[e1] at this
   exact this
  ·simpa using hx
  ·rw[List.mem_singleton.1 hx];exact .here
  ·rw[List.drop_zero,Nat.mul_one,List.take_of_length_le (by simp)]
   exact RelL_of_map (P:=RelC _ (.int k)) (f:=AV.int k) (fun _=>rfl) L
  ·simp only[VR]
   exact⟨l,cap,off,hl,rfl,h1,by omega,by omega,.inl ⟨rfl,by omega⟩⟩
theorem start (W:World) (ps:List Vm.Loc):HR (rho1 W 0 ps) (BB 0).H0 W:=⟨fun b k l hk _=>by simp[BB,H0,Tr.get] at hk,fun b b' l l' hk _ _ _ _=>by simp[BB,H0,Tr.get] at hk⟩
theorem start_lt:∀x,((BB 0).H0.get x).isSome→x<RO:=fun x hx=>by simp[BB,H0,Tr.get] at hx
theorem start_hk:HK (BB 0) RO [] (BB 0).H0 RO:=⟨show nx0≤RO by decide,by decide,fun _ _=>rfl,(fun _ h=>by cases h),List.nodup_nil⟩
theorem gl_ok {ρ:RM}:GLok gl ρ:=fun g hg=>by simp[gl] at hg
theorem u8_bd {z:Int} (h:(Lit.int .u8 z).wf=true):0≤z∧z≤255:=by
 simp[Lit.wf,IntKind.min,IntKind.max,IntKind.signed,IntKind.bits] at h
 omega
theorem noneFrozen_of {W:World} {p q:List MemPlace} (h:W.noneFrozen p) (hq:∀x∈q,x∈p):W.noneFrozen q:=fun b o hm=>h b o (hq _ hm)
theorem cells26:Try.prog.cellsOf 26=3:=by kernel_rfl
theorem cells24:Try.prog.cellsOf 24=2:=by kernel_rfl
theorem cells22:Try.prog.cellsOf 22=1:=by kernel_rfl
theorem cells5:Try.prog.cellsOf 5=1:=by kernel_rfl
theorem open_N {H:Type} {enc:TypeId×Value→H} {W:World} {b0:Nat} {v:Value} {d:DataW H} {p:List MemPlace} (hv:Value.okWide Try.prog W .any b0 26 v) (h:DataW.Trod enc Try.prog W 0 (fun _=>true) true 26 v d p) (hf:W.noneFrozen p):
  ∃(v0 v1:Value) (z:Int) (l0 l1:Vm.Loc) (L0 L1:List Int),v=.agg #[v0,v1,.int .u8 z]∧X.bytes L0∧X.bytes L1∧(0≤z∧z≤255)∧ArgOK .u8 W v0 l0 L0∧ArgOK .u8 W v1 l1 L1:=by
 obtain⟨cs,rfl,hsz⟩:=okWide_struct Try.underlying26 hv
 obtain⟨c0,c1,c2,rfl⟩:=Joins.array3 (hsz.trans cells26)
 obtain⟨fu,hfu⟩:=h
 obtain⟨y0,y1,n,hx,_,h0,h1⟩:=trod_struct2 Try.underlying26 hfu
 have h0:DataW.trod enc Try.prog W 0 (fun _=>true) true n 24 [c0,c1]=some y0:=by simpa[Value.cells,cells24] using h0
 have h1:DataW.trod enc Try.prog W 0 (fun _=>true) true n 5 [c2]=some y1:=by simpa[Value.cells,cells5] using h1
 obtain⟨z0,z1,m,hx0,_,g0,g1⟩:=trod_struct2 Try.underlying24 h0
 have g0:DataW.trod enc Try.prog W 0 (fun _=>true) true m 22 [c0]=some z0:=by simpa[Value.cells,cells22] using g0
 have g1:DataW.trod enc Try.prog W 0 (fun _=>true) true m 22 [c1]=some z1:=by simpa[Value.cells,cells22] using g1
 obtain⟨z,ez,_,wz⟩:=DataW.trod_int Try.underlying5 h1
 have hok:∀(i:Nat) (x:Value),i<2→(#[c0,c1,c2]:Array Value)[i]?=some x→Cell.okWide Try.prog W .any b0 22 x:=by
  simp only[Value.okWide,Try.underlying26] at hv
  obtain⟨cs,e,_,ts,hts,_,hc⟩:=hv
  cases e
  have e2:Try.prog.cellTypes Try.prog.depth 26=some [22,22,5]:=by kernel_rfl
  rw[e2] at hts
  cases hts
  intro i x hi hx
  obtain⟨u,hu,hk⟩:=hc i x hx
  have:u=22:=by
   match i,hi with
   | 0,_=>simp at hu;exact hu.symm
   | 1,_=>simp at hu;exact hu.symm
  rw[this] at hk
  exact hk
 have e1:p=y0.2++y1.2:=(Prod.mk.injEq _ _ _ _▸hx:_∧_).2
 have e2:y0.2=z0.2++z1.2:=by rw[hx0]
 obtain⟨l0,L0,w0,a0⟩:=arg_ok Try.underlying22 Try.underlying5 cells5 g0 (hok 0 c0 (by omega) rfl) (noneFrozen_of hf fun x hx=>by rw[e1,e2];exact List.mem_append.2 (.inl (List.mem_append.2 (.inl hx))))
 obtain⟨l1,L1,w1,a1⟩:=arg_ok Try.underlying22 Try.underlying5 cells5 g1 (hok 1 c1 (by omega) rfl) (noneFrozen_of hf fun x hx=>by rw[e1,e2];exact List.mem_append.2 (.inl (List.mem_append.2 (.inr hx))))
 cases ez
 exact⟨c0,c1,z,l0,l1,L0,L1,rfl,fun z hz=>u8_bd (w0 z hz),fun z hz=>u8_bd (w1 z hz),u8_bd wz,a0,a1⟩
theorem open_O {H:Type} {enc:TypeId×Value→H} {W:World} {b0:Nat} {v:Value} {d:DataW H} {p:List MemPlace} (hv:Value.okWide Try.prog W .any b0 27 v) (h:DataW.Trod enc Try.prog W 0 (fun _=>true) true 27 v d p) (hf:W.noneFrozen p):
  ∃(l:Vm.Loc) (L:List Int),X.bytes L∧ArgOK .u8 W v l L:=by
 simp only[Value.okWide,Try.underlying27] at hv
 obtain⟨fu,h⟩:=h
 have ec:v.cells.toList=[v]:=by
  rcases hv':v with _ | _<;>first | rfl | (subst hv';simp[Cell.okWide,Cell.ok,Try.underlying27] at hv)
 rw[ec] at h
 obtain⟨l,L,w,a⟩:=arg_ok Try.underlying27 Try.underlying5 cells5 h hv hf
 exact⟨l,L,fun z hz=>u8_bd (w z hz),a⟩
abbrev tN:Ty:=.prod (.prod (.sl (.int .u8)) (.sl (.int .u8))) (.prod (.int .u8) .unit)
theorem law_NO {m:Nat} {f:FuncId} {run:Dens [.d tN,.d (.sl (.int .u8))]→Option (Dens [.d .bool])} (ho:∀mx,OKs (BB mx) (told mx) prog m [⟨f,[.d tN,.d (.sl (.int .u8))],[.d .bool],run⟩]) (hrun:∀L0 L1 z L2,X.bytes L0→X.bytes L1→0≤z∧z≤255→X.bytes L2→run (((L0,L1),(z,())),L2)=some true)
  {W:World} {v0 v1 v2:Value} {l0 l1 l2:Vm.Loc} {L0 L1 L2:List Int} {z:Int} (b0:X.bytes L0) (b1:X.bytes L1) (bz:0≤z∧z≤255) (b2:X.bytes L2) (a0:ArgOK .u8 W v0 l0 L0) (a1:ArgOK .u8 W v1 l1 L1) (a2:ArgOK .u8 W v2 l2 L2):
  Calls Try.prog f #[.agg #[v0,v1,.int .u8 z],v2] W fun e W'=>e=.returned (.bool true)∧Below W.heap.size W W':=by
 have hR:=start W [l0,l1,l2]
 have r0:rho1 W 0 [l0,l1,l2] 0=some l0:=rfl
 have r1:rho1 W 0 [l0,l1,l2] 1=some l1:=rfl
 have r2:rho1 W 0 [l0,l1,l2] 2=some l2:=rfl
 obtain⟨H1,O1,u0,A0,q1,q2,q3,q4,q5,q6,q7,q8⟩:=lay_slice a0 r0 hR start_lt start_hk (show nx0≤0 by decide) (by decide) (by simp)
 have n1:∀x∈O1.map Ent.b,x=0:=fun x hx=>by
  rcases q4 _ hx with h1 | h1
  ·exact h1
  ·simp at h1
 obtain⟨H2,O2,u1,A1,j1,j2,j3,j4,j5,j6,j7,j8⟩:=lay_slice a1 r1 q1 q2 q3 (show nx0≤1 by decide) (by decide) (fun h=>by cases n1 _ h)
 have n2:∀x∈O2.map Ent.b,x=1∨x=0:=fun x hx=>by
  rcases j4 _ hx with h1 | h1
  ·exact .inl h1
  ·exact .inr (n1 _ h1)
 obtain⟨H3,O3,u2,A2,k1,k2,k3,k4,k5,k6,k7,k8⟩:=lay_slice a2 r2 j1 j2 j3 (show nx0≤2 by decide) (by decide) (fun h=>by rcases n2 _ h with h | h<;>cases h)
 have s0:∀x∈A0,x∈A0++(A1++A2):=fun x hx=>List.mem_append.2 (.inl hx)
 have s1:∀x∈A1,x∈A0++(A1++A2):=fun x hx=>List.mem_append.2 (.inr (List.mem_append.2 (.inl hx)))
 have s2:∀x∈A2,x∈A0++(A1++A2):=fun x hx=>List.mem_append.2 (.inr (List.mem_append.2 (.inr hx)))
 refine calls_of_TE (t:=⟨f,[.d tN,.d (.sl (.int .u8))],[.d .bool],run⟩) (told_ok 0) mixed prog_ok (n:=m) (ho 0 _ (List.mem_singleton.2 rfl) m (Nat.le_refl _)) rfl (a:=(((L0,L1),(z,())),L2)) (hrun L0 L1 z L2 b0 b1 bz b2) k3 (A:=A0++(A1++A2)) (fun x hx=>?_) (vs:=[.agg [u0,u1,.int .u8 z],u2]) ?_ k1 gl_ok (rho1_free (show 0+3≤RO by decide)) k2 ?_
 ·rcases List.mem_append.1 hx with hx | hx
  ·exact .inl (k6 _ _ (j6 _ _ (q5 x hx)))
  ·rcases List.mem_append.1 hx with hx | hx
   ·exact .inl (k6 _ _ (j5 x hx))
   ·exact .inl (k5 x hx)
 ·refine⟨_,_,[],[],rfl,rfl,⟨[u0,u1,.int .u8 z],rfl,rfl,⟨[u0,u1],[.int .u8 z],rfl,⟨[u0],[u1],rfl,⟨u0,rfl,?_⟩,⟨u1,rfl,?_⟩⟩,⟨[.int .u8 z],[],rfl,rfl,rfl⟩⟩,rfl⟩,_,rfl,rfl,⟨u2,rfl,?_⟩,rfl⟩
  ·exact SlR_mono s0 (fun _ _=>RelL_mono (RelC_mono s0 (.int .u8))) q7
  ·exact SlR_mono s1 (fun _ _=>RelL_mono (RelC_mono s1 (.int .u8))) j7
  ·exact SlR_mono s2 (fun _ _=>RelL_mono (RelC_mono s2 (.int .u8))) k7
 ·simp only[VRs,VR]
  exact⟨_,_,rfl,⟨_,rfl,_,_,rfl,q8,_,_,rfl,j8,_,_,rfl,rfl,rfl⟩,_,_,rfl,k8,rfl⟩
end Vm
end Go.Proofs.Ytofimkliemlojaa
