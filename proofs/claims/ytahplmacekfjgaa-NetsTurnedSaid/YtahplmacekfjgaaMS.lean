/-
  What the rows of this chapter need: the law's net as an argument, the start, the call.
-/
import Derived.Test.YtahplmacekfjgaaQ8
import Derived.Lib.SmallJoins
import Derived.Test.YtahplmacekfjgaaNF
set_option linter.unusedSimpArgs false
set_option linter.unusedVariables false
set_option linter.unusedSectionVars false
set_option linter.unnecessarySimpa false
namespace Go.Proofs.Ytahplmacekfjgaa
open Go.ChangeShapes Go.WideShapes Go.ChangeAt Go.RowKit Go.Deep
namespace Vm
open Go Go.Vm Go.Vm.W Go.Vm.X
set_option maxRecDepth 100000
theorem own:ownKnob Try.prog.godebug=none:=by kernel_rfl
theorem laidOut:laidOutB Try.prog=true:=by kernel_rfl
theorem HK_lay {B:Base} {ro nx:Nat} {O:List Ent} {H:Tr Blk} (h:HK B ro O H nx) {b:Nat} (h0:B.nx0≤b) (hb:b<nx) (hn:b∉O.map Ent.b) (l:List AV):HK B ro (⟨b,false,.cells l⟩::O) (H.set b (.cells (put l 0 .e) l.length)) nx:=by
 refine⟨h.r0,h.r1,fun x hx=>by rw[Tr.get_set,if_neg (by omega),h.base x hx],fun e he=>?_,by simp only[List.map_cons,List.nodup_cons];exact⟨hn,h.nd⟩⟩
 rcases List.mem_cons.1 he with rfl | he
 ·exact⟨hb,(fun hw=>by cases hw),At_new⟩
 ·obtain⟨e1,e2,e3⟩:=h.ent e he
  refine⟨e1,e2,e3.congr ?_⟩
  rw[Tr.get_set,if_neg fun e=>hn (List.mem_map.2 ⟨_,he,e⟩)]
theorem start (W:World) (ps:List Vm.Loc):HR (rho1 W 0 ps) (BB 0).H0 W:=⟨fun b k l hk _=>by simp[BB,H0,Tr.get] at hk,fun b b' l l' hk _ _ _ _=>by simp[BB,H0,Tr.get] at hk⟩
theorem start_lt:∀x,((BB 0).H0.get x).isSome→x<RO:=fun x hx=>by simp[BB,H0,Tr.get] at hx
theorem start_hk:HK (BB 0) RO [] (BB 0).H0 RO:=⟨show nx0≤RO by decide,by decide,fun _ _=>rfl,(fun _ h=>by cases h),List.nodup_nil⟩
theorem gl_ok {ρ:RM}:GLok gl ρ:=fun g hg=>by simp[gl] at hg
theorem u8_bd {z:Int} (h:(Lit.int .u8 z).wf=true):0≤z∧z≤255:=by
 simp[Lit.wf,IntKind.min,IntKind.max,IntKind.signed,IntKind.bits] at h
 omega
theorem u64_bd {z:Int} (h:(Lit.int .u64 z).wf=true):0≤z∧z≤18446744073709551615:=by
 simp[Lit.wf,IntKind.min,IntKind.max,IntKind.signed,IntKind.bits] at h
 omega
theorem noneFrozen_of {W:World} {p q:List MemPlace} (h:W.noneFrozen p) (hq:∀x∈q,x∈p):W.noneFrozen q:=fun b o hm=>h b o (hq _ hm)
theorem cells25:Try.prog.cellsOf 25=3:=by kernel_rfl
theorem cells22:Try.prog.cellsOf 22=1:=by kernel_rfl
theorem cells23:Try.prog.cellsOf 23=1:=by kernel_rfl
theorem cells84:Try.prog.cellsOf 84=3:=by kernel_rfl
theorem cells5:Try.prog.cellsOf 5=1:=by kernel_rfl
theorem bytes84:Try.prog.bytesOf 84=3:=by kernel_rfl
def ArgO (W:World) (v:Value) (l:Vm.Loc) (L:List (List Int)):Prop:=(v=.slice none 0 0∧L=[])∨∃(g:Nat→Int) (len cap off:Nat),L=rows3 g len∧v=.slice (some ⟨l.blk,off,none⟩) len cap∧len≤cap∧(off=l.base∨cap=0)∧l.base+cap*3=l.lim∧
 ∀ρ,Blk.Rel false ρ (.cells (put ((List.range (len*3)).map fun q=>AV.int .u8 (g q)) 0 .e) (len*3)) l W
theorem argO_ok {H:Type} {enc:TypeId×Value→H} {W:World} {fuel b0:Nat} {v:Value} {x:DataW H×List MemPlace}
  (h:DataW.trod enc Try.prog W 0 (fun _=>true) true fuel 22 [v]=some x) (hok:Cell.okWide Try.prog W .any b0 22 v) (hfz:W.noneFrozen x.2) (hz:∀n∈x.1.weights Try.prog 22,n≤reachBytes):∃l L,bytes3 L∧L.length≤140737488355328∧ArgO W v l L:=by
 have hlen:∀a len cap,v=.slice (some a) len cap→len≤140737488355328:=fun a len cap e=>by
  rcases open_slice Try.underlying22 h with⟨hv,_⟩ | ⟨a',len',cap',m,n,D,Pl,hv,_,hl,hm,hmm,hx,hV⟩
  ·rw[e] at hv;simp at hv
  ·rw[e] at hv
   simp only[List.cons.injEq,Value.slice.injEq,and_true] at hv
   obtain⟨_,rfl,rfl⟩:=hv
   have h1:=hz ((((List.range len).map D).length+ ((List.range (m-len)).map fun j=>D (len+j)).length)*Try.prog.bytesOf 84) (by
    rw[hx]
    simp only[DataW.weights,Try.underlying22]
    exact List.mem_cons_self ..)
   rw[bytes84] at h1
   simp only[List.length_map,List.length_range] at h1
   have:=reachBytes_lt
   omega
 rcases slice_arg3 Try.underlying22 Try.underlying84 Try.underlying5 cells5 cells84 h hok hfz with rfl | ⟨g,len,cap,off,blk,base,lim,h1,h2,h3,h4,h5,h6⟩
 ·exact⟨⟨0,0,0⟩,[],(fun z hz=>by cases hz),by simp,.inl ⟨rfl,rfl⟩⟩
 ·refine⟨⟨blk,base,lim⟩,_,fun y hy=>?_,?_,.inr ⟨g,len,cap,off,rfl,h2,h3,h4,h5,h6⟩⟩
  ·obtain⟨i,hi,rfl⟩:=List.mem_map.1 hy
   have hi:=List.mem_range.1 hi
   refine⟨rfl,fun z hz=>?_⟩
   simp only[List.mem_cons,List.not_mem_nil,or_false] at hz
   rcases hz with rfl | rfl | rfl
   ·exact u8_bd (h1 _ (by omega))
   ·exact u8_bd (h1 _ (by omega))
   ·exact u8_bd (h1 _ (by omega))
  ·rw[rows3_len]
   exact hlen _ _ _ h2
theorem lay_sliceO {B:Base} {ρ:RM} {H:Tr Blk} {W:World} {O:List Ent} {b:Nat} {v:Value} {l:Vm.Loc} {L:List (List Int)} (ha:ArgO W v l L) (hl:ρ b=some l) (hR:HR ρ H W) (hlt:∀x,(H.get x).isSome→x<RO) (hk:HK B RO O H RO) (h0:B.nx0≤b) (hb:b<RO) (hn:b∉O.map Ent.b):
  ∃H' O' av A,HR ρ H' W∧(∀x,(H'.get x).isSome→x<RO)∧HK B RO O' H' RO∧(∀x∈(A:Facts),Has O' x.1 x.2)∧SlR A 3 (RelL (RelC A (.arr 3 (.int .u8)))) L av∧VR ρ av v:=by
 rcases ha with⟨rfl,rfl⟩ | ⟨g,len,cap,off,rfl,rfl,h1,h2,h3,h4⟩
 ·exact⟨H,O,.nils,[],hR,hlt,hk,(fun x hx=>by cases hx),.inl ⟨rfl,rfl⟩,by simp[VR]⟩
 ·generalize hm:((List.range (len*3)).map fun q=>AV.int .u8 (g q))=M at h4
  have e1:M.length=len*3:=by rw[←hm];simp
  obtain⟨q1,q2⟩:=HR_add hR hlt hb hl (h4 ρ)
  refine⟨_,⟨b,false,.cells M⟩::O,.sl b 0 len (some cap) 3,[(b,.cells M)],q1,q2,?_,fun x hx=>?_,.inr ⟨b,0,some cap,M,by rw[rows3_len],List.mem_singleton.2 rfl,fun c hc=>by cases hc;rw[rows3_len];exact h1,by rw[rows3_len];omega,?_⟩,?_⟩
  ·have:=HK_lay hk h0 hb hn M
   rw[e1] at this
   exact this
  ·rw[List.mem_singleton.1 hx];exact .here
  ·rw[List.drop_zero,rows3_len,List.take_of_length_le (by omega),←hm]
   exact rows3_rel len
  ·simp only[VR]
   exact⟨l,cap,off,hl,rfl,h1,by omega,by omega,.inl ⟨rfl,by omega⟩⟩
theorem open_N {H:Type} {enc:TypeId×Value→H} {W:World} {b0:Nat} {v:Value} {d:DataW H} {p:List MemPlace} (hv:Value.okWide Try.prog W .any b0 25 v) (h:DataW.Trod enc Try.prog W 0 (fun _=>true) true 25 v d p) (hf:W.noneFrozen p) (hz:∀n∈d.weights Try.prog 25,n≤reachBytes):
  ∃(v0:Value) (c b:Int) (l:Vm.Loc) (L:List (List Int)),v=.agg #[v0,.int .u64 c,.int .u64 b]∧bytes3 L∧L.length≤140737488355328∧(0≤c∧c≤18446744073709551615)∧(0≤b∧b≤18446744073709551615)∧ArgO W v0 l L:=by
 obtain⟨cs,rfl,hsz⟩:=okWide_struct Try.underlying25 hv
 obtain⟨c0,c1,c2,rfl⟩:=Joins.array3 (hsz.trans cells25)
 obtain⟨fu,hfu⟩:=h
 obtain⟨y0,y1,y2,n,hx,_,h0,h1,h2⟩:=trod_struct3 Try.underlying25 hfu
 have h0:DataW.trod enc Try.prog W 0 (fun _=>true) true n 22 [c0]=some y0:=by simpa[Value.cells,cells22] using h0
 have h1:DataW.trod enc Try.prog W 0 (fun _=>true) true n 23 [c1]=some y1:=by simpa[Value.cells,cells23] using h1
 have h2:DataW.trod enc Try.prog W 0 (fun _=>true) true n 23 [c2]=some y2:=by simpa[Value.cells,cells23] using h2
 obtain⟨c,ec,_,wc⟩:=DataW.trod_int Try.underlying23 h1
 obtain⟨b,eb,_,wb⟩:=DataW.trod_int Try.underlying23 h2
 have hok:Cell.okWide Try.prog W .any b0 22 c0:=by
  simp only[Value.okWide,Try.underlying25] at hv
  obtain⟨cs,e,_,ts,hts,_,hc⟩:=hv
  cases e
  have e2:Try.prog.cellTypes Try.prog.depth 25=some [22,23,23]:=by kernel_rfl
  rw[e2] at hts
  cases hts
  obtain⟨u,hu,hk⟩:=hc 0 c0 rfl
  have:u=22:=by simp at hu;exact hu.symm
  rw[this] at hk
  exact hk
 have e1:d=.agg [y0.1,y1.1,y2.1]∧p=y0.2++(y1.2++y2.2):=(Prod.mk.injEq _ _ _ _▸hx:_∧_)
 obtain⟨l,L,w0,w1,a0⟩:=argO_ok h0 hok (noneFrozen_of hf fun x hx=>by rw[e1.2];exact List.mem_append.2 (.inl hx)) (fun n hn=>hz n (by
  rw[e1.1]
  simp only[DataW.weights,Try.underlying25,DataW.weightsEach,List.map_cons,List.map_nil]
  exact List.mem_append.2 (.inl hn)))
 cases ec
 cases eb
 exact⟨c0,c,b,l,L,rfl,w0,w1,u64_bd wc,u64_bd wb,a0⟩
abbrev tN:Ty:=.prod (.sl (.arr 3 (.int .u8))) (.prod (.int .u64) (.int .u64))
theorem law_NT {m:Nat} {f:FuncId} {run:Dens [.d tN,.d (.int .u8),.d .bool]→Option (Dens [.d .bool])} (ho:∀mx,OKs (BB mx) (told mx) prog m [⟨f,[.d tN,.d (.int .u8),.d .bool],[.d .bool],run⟩]) {c b z:Int} {o:Bool} {W:World} {v:Value} {l:Vm.Loc} {L:List (List Int)} (hrun:run ((L,(c,b)),(z,o))=some true) (a0:ArgO W v l L):
  Calls Try.prog f #[.agg #[v,.int .u64 c,.int .u64 b],.int .u8 z,.bool o] W fun e W'=>e=.returned (.bool true)∧Below W.heap.size W W':=by
 have hR:=start W [l]
 have r0:rho1 W 0 [l] 0=some l:=rfl
 obtain⟨H1,O1,u0,A0,q1,q2,q3,q5,q7,q8⟩:=lay_sliceO a0 r0 hR start_lt start_hk (show nx0≤0 by decide) (by decide) (by simp)
 refine calls_of_TE (t:=⟨f,[.d tN,.d (.int .u8),.d .bool],[.d .bool],run⟩) (told_ok 0) mixed prog_ok (n:=m) (ho 0 _ (List.mem_singleton.2 rfl) m (Nat.le_refl _)) rfl (a:=((L,(c,b)),(z,o))) hrun q3 (A:=A0) (fun x hx=>.inl (q5 x hx)) (vs:=[.agg [u0,.int .u64 c,.int .u64 b],.int .u8 z,.bool o]) ?_ q1 gl_ok (rho1_free (show 0+1≤RO by decide)) q2 ?_
 ·exact⟨_,_,[],[],rfl,rfl,⟨[u0,.int .u64 c,.int .u64 b],rfl,rfl,⟨[u0],[.int .u64 c,.int .u64 b],rfl,⟨u0,rfl,q7⟩,⟨[.int .u64 c],[.int .u64 b],rfl,rfl,rfl⟩⟩,rfl⟩,_,_,[],[],rfl,rfl,⟨rfl,rfl,rfl⟩,_,rfl,rfl,rfl,rfl⟩
 ·simp only[VRs,VR]
  exact⟨_,_,rfl,⟨_,rfl,_,_,rfl,q8,_,_,rfl,rfl,_,_,rfl,rfl,rfl⟩,_,_,rfl,rfl,_,_,rfl,rfl,rfl⟩
end Vm
end Go.Proofs.Ytahplmacekfjgaa
