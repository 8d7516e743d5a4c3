/-
  What the rows of this chapter need: the law's net as an argument, the start, the call.
-/
import Derived.Test.YtahplmacekfjgaaGreatDoorQ8
import Derived.Lib.SmallJoins
import Derived.Test.YtahplmacekfjgaaGreatDoorN3
import Derived.Test.YtahplmacekfjgaaGreatDoorTie
import Derived.Test.YtahplmacekfjgaaGreatDoorCards
set_option linter.unusedSimpArgs false
set_option linter.unusedVariables false
set_option linter.unusedSectionVars false
set_option linter.unnecessarySimpa false
namespace Go.Proofs.YtahplmacekfjgaaGreatDoor
open Go.ChangeShapes Go.WideShapes Go.ChangeAt Go.RowKit Go.Deep
namespace Vm
open Go Go.Vm Go.Vm.W Go.Vm.X
set_option maxRecDepth 100000
theorem own:ownKnob Tryz.prog.godebug=none:=by kernel_rfl
theorem laidOut:laidOutB Tryz.prog=true:=by kernel_rfl
theorem rows_sized {H:Type} {enc:TypeId×Value→H} {a:Assume} {C:Checked} {os:Os} {f:FuncId} {fn:Func} {s:ChangeSpec} {conds:List PathCond} {apart fresh handsOn again:Bool} {X:World→Array Value→Prop}
  (hX:∀(w w':World) (args:Array Value),w.heap=w'.heap→X w args→X w' args)
  (own:ownKnob C.prog.godebug=none) (started:os.Started) (noInit:C.prog.inits.idxOf? f=none) (hfn:C.prog.funcs[f]?=some fn)
  (witness:∃(w:World) (tape:Tape) (i:Input),w.os=os∧(w.forCall tape i).Shaped C.prog∧i.vars=[]∧Input.okWide C.prog (w.forCall tape i) .any w.heap.size f i∧
    ((s.pre enc C.prog fn conds apart (w.forCall tape i).memory i.args∧X (w.forCall tape i).memory i.args)∧sizedMet enc C.prog fn (OpenSpec.ofChange s) apart (w.forCall tape i).memory i.args)∧a.holds C.prog (lone (Frame.enter C.prog f i.args .normal) [] (w.forCall tape i)))
  (contract:∀(W:World) (base:Nat) (args:Array Value) (ds gs:List (DataW H)) (before:List MemPlace),W.ShapedOpen C.prog→
    (∀(j:Nat) t v,fn.params[j]?=some t→args[j]?=some v→Value.okWide C.prog W .any base t v)→
    DataW.Whole enc C.prog fn.params.toList s.vars apart W args.toList ds gs before→X W args→
    (DataW.weightsEach C.prog (fn.params.toList++s.plain.varTypes C.prog) (ds++gs)).all (·≤reachBytes)=true→
    Calls C.prog f args W fun e W'=>∃v,e=.returned v∧s.post enc C.prog fn apart fresh handsOn again W args v W'):
  ReturnsInHanded a C os f .any (fun w args=>(s.pre enc C.prog fn conds apart w args∧X w args)∧sizedMet enc C.prog fn (OpenSpec.ofChange s) apart w args) (s.post enc C.prog fn apart fresh handsOn again):=by
 refine returnsInHanded_of_calls own started noInit witness ?_
 intro w tape i _ hsh _ hok hpre _
 obtain⟨_,_,_,fn',hfn',_,_,_,_,hval⟩:=hok
 obtain rfl:fn'=fn:=Option.some.inj (hfn'.symm.trans hfn)
 obtain⟨⟨⟨ds,gs,before,hw,_⟩,hx⟩,hz⟩:=hpre
 have hw':=DataW.Whole.of_heap (w':=w.forCall tape i) (by rfl) hw
 refine(contract (w.forCall tape i) w.heap.size i.args ds gs before hsh hval hw' (hX _ _ _ (by rfl) hx) (hz.weights hw)).mono fun e W' ⟨v,he,hp⟩=>?_
 subst he
 exact ChangeSpec.post_blind hp
theorem HK_lay {B:Base} {ro nx:Nat} {O:List Ent} {H:Tr Blk} (h:HK B ro O H nx) {b:Nat} (h0:B.nx0≤b) (hb:b<nx) (hn:b∉O.map Ent.b) (l:List AV):HK B ro (⟨b,false,.cells l⟩::O) (H.set b (.cells (put l 0 .e) l.length)) nx:=by
 refine⟨h.r0,h.r1,fun x hx=>by rw[Tr.get_set,if_neg (by omega),h.base x hx],fun e he=>?_,by simp only[List.map_cons,List.nodup_cons];exact⟨hn,h.nd⟩⟩
 rcases List.mem_cons.1 he with rfl | he
 ·exact⟨hb,(fun hw=>by cases hw),At_new⟩
 ·obtain⟨e1,e2,e3⟩:=h.ent e he
  refine⟨e1,e2,e3.congr ?_⟩
  rw[Tr.get_set,if_neg fun e=>hn (List.mem_map.2 ⟨_,he,e⟩)]
theorem laidS_in:∀x∈laidS,x∈Rows.netsCompareRow.laid:=by
 intro x hx
 unfold laidS at hx
 obtain⟨y,hy,rfl⟩:=List.mem_map.1 hx
 exact List.fst_mem_of_mem_zipIdx (List.mem_filter.1 hy).1
theorem es_lt:∀e∈es,e.1<8:=by
 have:(es.all fun e=>e.1.blt 8)=true:=by kernel_rfl
 intro e he
 simpa using List.all_eq_true.1 this e he
theorem start {W:World} (hL:laidMet Tryz.prog Rows.netsCompareRow.laid W) (ps:List Vm.Loc):HR (rho1 W 8 ps) (BB 0).H0 W:=by
 have:=HR_more hL laidS_in es_ok (ex:=ex) 8 ps es_lt (by intro e he;simp only[ex,List.not_mem_nil] at he)
 rw[H0_eq 0] at this
 exact this
theorem start_lt:∀x,((BB 0).H0.get x).isSome→x<RO:=fun x hx=>by
 have:=BB_wf 0 x hx
 exact Nat.lt_of_lt_of_le this (show nx0≤RO by decide)
theorem start_hk:HK (BB 0) RO [] (BB 0).H0 RO:=⟨show nx0≤RO by decide,by decide,fun _ _=>rfl,(fun _ h=>by cases h),List.nodup_nil⟩
theorem gl_ok {W:World} {ps:List Vm.Loc}:GLok gl (rho1 W 8 ps):=fun g hg=>by
 have:∀g∈gl,g<8:=by decide
 obtain⟨l,h1,h2,h3⟩:=rho1_at (w:=W) (ps:=ps) (this g (List.contains_iff_mem.1 hg))
 exact⟨l,h1,h2,h3⟩
theorem u8_bd {z:Int} (h:(Lit.int .u8 z).wf=true):0≤z∧z≤255:=by
 simp[Lit.wf,IntKind.min,IntKind.max,IntKind.signed,IntKind.bits] at h
 omega
theorem u64_bd {z:Int} (h:(Lit.int .u64 z).wf=true):0≤z∧z≤18446744073709551615:=by
 simp[Lit.wf,IntKind.min,IntKind.max,IntKind.signed,IntKind.bits] at h
 omega
theorem noneFrozen_of {W:World} {p q:List MemPlace} (h:W.noneFrozen p) (hq:∀x∈q,x∈p):W.noneFrozen q:=fun b o hm=>h b o (hq _ hm)
theorem cells25:Tryz.prog.cellsOf 25=3:=by kernel_rfl
theorem cells22:Tryz.prog.cellsOf 22=1:=by kernel_rfl
theorem cells23:Tryz.prog.cellsOf 23=1:=by kernel_rfl
theorem cells107:Tryz.prog.cellsOf 107=3:=by kernel_rfl
theorem cells5:Tryz.prog.cellsOf 5=1:=by kernel_rfl
theorem bytes107:Tryz.prog.bytesOf 107=3:=by kernel_rfl
def ArgO (W:World) (v:Value) (l:Vm.Loc) (L:List (List Int)):Prop:=(v=.slice none 0 0∧L=[])∨∃(g:Nat→Int) (len cap off:Nat),L=rows3 g len∧v=.slice (some ⟨l.blk,off,none⟩) len cap∧len≤cap∧(off=l.base∨cap=0)∧l.base+cap*3=l.lim∧
 ∀ρ,Blk.Rel false ρ (.cells (put ((List.range (len*3)).map fun q=>AV.int .u8 (g q)) 0 .e) (len*3)) l W
theorem argO_ok {H:Type} {enc:TypeId×Value→H} {W:World} {fuel b0:Nat} {v:Value} {x:DataW H×List MemPlace}
  (h:DataW.trod enc Tryz.prog W 0 (fun _=>true) true fuel 22 [v]=some x) (hok:Cell.okWide Tryz.prog W .any b0 22 v) (hfz:W.noneFrozen x.2) (hz:∀n∈x.1.weights Tryz.prog 22,n≤reachBytes):∃l L,bytes3 L∧L.length≤140737488355328∧ArgO W v l L:=by
 have hlen:∀a len cap,v=.slice (some a) len cap→len≤140737488355328:=fun a len cap e=>by
  rcases open_slice Tryz.underlying22 h with⟨hv,_⟩ | ⟨a',len',cap',m,n,D,Pl,hv,_,hl,hm,hmm,hx,hV⟩
  ·rw[e] at hv;simp at hv
  ·rw[e] at hv
   simp only[List.cons.injEq,Value.slice.injEq,and_true] at hv
   obtain⟨_,rfl,rfl⟩:=hv
   have h1:=hz ((((List.range len).map D).length+ ((List.range (m-len)).map fun j=>D (len+j)).length)*Tryz.prog.bytesOf 107) (by
    rw[hx]
    simp only[DataW.weights,Tryz.underlying22]
    exact List.mem_cons_self ..)
   rw[bytes107] at h1
   simp only[List.length_map,List.length_range] at h1
   have:=reachBytes_lt
   omega
 rcases slice_arg3 Tryz.underlying22 Tryz.underlying107 Tryz.underlying5 cells5 cells107 h hok hfz with rfl | ⟨g,len,cap,off,blk,base,lim,h1,h2,h3,h4,h5,h6⟩
 ·exact⟨⟨0,0,0⟩,[],(fun z hz=>by cases hz),by simp,.inl ⟨rfl,rfl⟩⟩
 ·refine⟨⟨blk,base,lim⟩,_,fun y hy=>?_,?_,.inr ⟨g,len,cap,off,rfl,h2,h3,h4,h5,h6⟩⟩
  ·obtain⟨i,hi,rfl⟩:=List.mem_map.1 hy
   have hi:=List.mem_range.1 hi
   refine⟨rfl,fun z hz=>?_⟩
   simp only[List.mem_cons,List.not_mem_nil,or_false] at hz
   rcases hz with rfl | rfl | rfl
   ·exact u8_bd (h1 _ (by omega))
   ·exact u8_bd (h1 _ (by omega))
   ·exact u8_bd (h1 _ (by omega))
  ·rw[rows3_len]
   exact hlen _ _ _ h2
theorem lay_sliceO {B:Base} {ρ:RM} {H:Tr Blk} {W:World} {O:List Ent} {b:Nat} {v:Value} {l:Vm.Loc} {L:List (List Int)} (ha:ArgO W v l L) (hl:ρ b=some l) (hR:HR ρ H W) (hlt:∀x,(H.get x).isSome→x<RO) (hk:HK B RO O H RO) (h0:B.nx0≤b) (hb:b<RO) (hn:b∉O.map Ent.b):
  ∃H' O' av A,HR ρ H' W∧(∀x,(H'.get x).isSome→x<RO)∧HK B RO O' H' RO∧(∀x∈O'.map Ent.b,x=b∨x∈O.map Ent.b)∧(∀x∈(A:Facts),Has O' x.1 x.2)∧(∀c x,Has O c x→Has O' c x)∧SlR A 3 (RelL (RelC A (.arr 3 (.int .u8)))) L av∧VR ρ av v:=by
 rcases ha with⟨rfl,rfl⟩ | ⟨g,len,cap,off,rfl,rfl,h1,h2,h3,h4⟩
 ·exact⟨H,O,.nils,[],hR,hlt,hk,fun x h=>.inr h,(fun x hx=>by cases hx),fun _ _ h=>h,.inl ⟨rfl,rfl⟩,by simp[VR]⟩
 ·generalize hm:((List.range (len*3)).map fun q=>AV.int .u8 (g q))=M at h4
  have e1:M.length=len*3:=by rw[←hm];simp
  obtain⟨q1,q2⟩:=HR_add hR hlt hb hl (h4 ρ)
  refine⟨_,⟨b,false,.cells M⟩::O,.sl b 0 len (some cap) 3,[(b,.cells M)],q1,q2,?_,fun x hx=>?_,fun x hx=>?_,fun _ _ h=>.there h,.inr ⟨b,0,some cap,M,by rw[rows3_len],List.mem_singleton.2 rfl,fun c hc=>by cases hc;rw[rows3_len];exact h1,by rw[rows3_len];omega,?_⟩,?_⟩
  ·have:=HK_lay hk h0 hb hn M
   rw[e1] at this
   exact this
  ·simpa using hx
  ·rw[List.mem_singleton.1 hx];exact .here
  ·rw[List.drop_zero,rows3_len,List.take_of_length_le (by omega),←hm]
   exact rows3_rel len
  ·simp only[VR]
   exact⟨l,cap,off,hl,rfl,h1,by omega,by omega,.inl ⟨rfl,by omega⟩⟩
theorem SlR.mono3 {A B:Facts} (h:∀x∈A,x∈B) {L:List (List Int)} {v:AV} (hs:SlR A 3 (RelL (RelC A (.arr 3 (.int .u8)))) L v):SlR B 3 (RelL (RelC B (.arr 3 (.int .u8)))) L v:=by
 obtain⟨u,e,h⟩:=RelC_mono h (.sl (.arr 3 (.int .u8))) L [v] ⟨v,rfl,hs⟩
 cases e
 exact h
theorem open_N {H:Type} {enc:TypeId×Value→H} {W:World} {b0:Nat} {v:Value} {d:DataW H} {p:List MemPlace} (hv:Value.okWide Tryz.prog W .any b0 25 v) (h:DataW.Trod enc Tryz.prog W 0 (fun _=>true) true 25 v d p) (hf:W.noneFrozen p) (hz:∀n∈d.weights Tryz.prog 25,n≤reachBytes):
  ∃(v0:Value) (c b:Int) (l:Vm.Loc) (L:List (List Int)),v=.agg #[v0,.int .u64 c,.int .u64 b]∧bytes3 L∧L.length≤140737488355328∧(0≤c∧c≤18446744073709551615)∧(0≤b∧b≤18446744073709551615)∧ArgO W v0 l L:=by
 obtain⟨cs,rfl,hsz⟩:=okWide_struct Tryz.underlying25 hv
 obtain⟨c0,c1,c2,rfl⟩:=Joins.array3 (hsz.trans cells25)
 obtain⟨fu,hfu⟩:=h
 obtain⟨y0,y1,y2,n,hx,_,h0,h1,h2⟩:=trod_struct3 Tryz.underlying25 hfu
 have h0:DataW.trod enc Tryz.prog W 0 (fun _=>true) true n 22 [c0]=some y0:=by simpa[Value.cells,cells22] using h0
 have h1:DataW.trod enc Tryz.prog W 0 (fun _=>true) true n 23 [c1]=some y1:=by simpa[Value.cells,cells23] using h1
 have h2:DataW.trod enc Tryz.prog W 0 (fun _=>true) true n 23 [c2]=some y2:=by simpa[Value.cells,cells23] using h2
 obtain⟨c,ec,_,wc⟩:=DataW.trod_int Tryz.underlying23 h1
 obtain⟨b,eb,_,wb⟩:=DataW.trod_int Tryz.underlying23 h2
 have hok:Cell.okWide Tryz.prog W .any b0 22 c0:=by
  simp only[Value.okWide,Tryz.underlying25] at hv
  obtain⟨cs,e,_,ts,hts,_,hc⟩:=hv
  cases e
  have e2:Tryz.prog.cellTypes Tryz.prog.depth 25=some [22,23,23]:=by kernel_rfl
  rw[e2] at hts
  cases hts
  obtain⟨u,hu,hk⟩:=hc 0 c0 rfl
  have:u=22:=by simp at hu;exact hu.symm
  rw[this] at hk
  exact hk
 have e1:d=.agg [y0.1,y1.1,y2.1]∧p=y0.2++(y1.2++y2.2):=(Prod.mk.injEq _ _ _ _▸hx:_∧_)
 obtain⟨l,L,w0,w1,a0⟩:=argO_ok h0 hok (noneFrozen_of hf fun x hx=>by rw[e1.2];exact List.mem_append.2 (.inl hx)) (fun n hn=>hz n (by
  rw[e1.1]
  simp only[DataW.weights,Tryz.underlying25,DataW.weightsEach,List.map_cons,List.map_nil]
  exact List.mem_append.2 (.inl hn)))
 cases ec
 cases eb
 exact⟨c0,c,b,l,L,rfl,w0,w1,u64_bd wc,u64_bd wb,a0⟩
abbrev tN:Ty:=.prod (.sl (.arr 3 (.int .u8))) (.prod (.int .u64) (.int .u64))
theorem law_N3 {m:Nat} {f:FuncId} {run:Dens [.d tN,.d tN,.d tN]→Option (Dens [.d .bool])} (ho:∀mx,OKs (BB mx) (told mx) prog m [⟨f,[.d tN,.d tN,.d tN],[.d .bool],run⟩]) {c0 b0 c1 b1 c2 b2:Int} {W:World} (hL:laidMet Tryz.prog Rows.netsCompareRow.laid W) {v0 v1 v2:Value} {l0 l1 l2:Vm.Loc} {L0 L1 L2:List (List Int)}
  (hrun:run ((L0,(c0,b0)),((L1,(c1,b1)),(L2,(c2,b2))))=some true) (a0:ArgO W v0 l0 L0) (a1:ArgO W v1 l1 L1) (a2:ArgO W v2 l2 L2):
  Calls Tryz.prog f #[.agg #[v0,.int .u64 c0,.int .u64 b0],.agg #[v1,.int .u64 c1,.int .u64 b1],.agg #[v2,.int .u64 c2,.int .u64 b2]] W fun e W'=>e=.returned (.bool true)∧Below W.heap.size W W':=by
 have hR:=start hL [l0,l1,l2]
 have r0:rho1 W 8 [l0,l1,l2] 8=some l0:=rfl
 have r1:rho1 W 8 [l0,l1,l2] 9=some l1:=rfl
 have r2:rho1 W 8 [l0,l1,l2] 10=some l2:=rfl
 obtain⟨HA,O0,u0,A0,p1,p2,p3,p4,p5,p6,p7,p8⟩:=lay_sliceO a0 r0 hR start_lt start_hk (show nx0≤8 by decide) (by decide) (by simp)
 obtain⟨HB,O1,u1,A1,q1,q2,q3,q4,q5,q6,q7,q8⟩:=lay_sliceO a1 r1 p1 p2 p3 (show nx0≤9 by decide) (by decide) (fun h=>by have:=p4 _ h;simp at this)
 obtain⟨HC,O2,u2,A2,s1,s2,s3,s4,s5,s6,s7,s8⟩:=lay_sliceO a2 r2 q1 q2 q3 (show nx0≤10 by decide) (by decide) (fun h=>by
  rcases q4 _ h with h | h
  ·simp at h
  ·have:=p4 _ h;simp at this)
 have w0:SlR (A0++(A1++A2)) 3 (RelL (RelC (A0++(A1++A2)) (.arr 3 (.int .u8)))) L0 u0:=SlR.mono3 (fun x h=>List.mem_append.2 (.inl h)) p7
 have w1:SlR (A0++(A1++A2)) 3 (RelL (RelC (A0++(A1++A2)) (.arr 3 (.int .u8)))) L1 u1:=SlR.mono3 (fun x h=>List.mem_append.2 (.inr (List.mem_append.2 (.inl h)))) q7
 have w2:SlR (A0++(A1++A2)) 3 (RelL (RelC (A0++(A1++A2)) (.arr 3 (.int .u8)))) L2 u2:=SlR.mono3 (fun x h=>List.mem_append.2 (.inr (List.mem_append.2 (.inr h)))) s7
 refine calls_of_TE (t:=⟨f,[.d tN,.d tN,.d tN],[.d .bool],run⟩) (told_ok 0) mixed prog_ok (n:=m) (ho 0 _ (List.mem_singleton.2 rfl) m (Nat.le_refl _)) rfl (a:=((L0,(c0,b0)),((L1,(c1,b1)),(L2,(c2,b2))))) hrun s3 (A:=A0++(A1++A2)) (fun x hx=>.inl ?_) (vs:=[.agg [u0,.int .u64 c0,.int .u64 b0],.agg [u1,.int .u64 c1,.int .u64 b1],.agg [u2,.int .u64 c2,.int .u64 b2]]) ?_ s1 gl_ok (rho1_free (show 8+3≤RO by decide)) s2 ?_
 ·rcases List.mem_append.1 hx with h | h
  ·exact s6 _ _ (q6 _ _ (p5 x h))
  ·rcases List.mem_append.1 h with h | h
   ·exact s6 _ _ (q5 x h)
   ·exact s5 x h
 ·have key:∀ {u:AV} {L:List (List Int)} {c b:Int},SlR (A0++(A1++A2)) 3 (RelL (RelC (A0++(A1++A2)) (.arr 3 (.int .u8)))) L u→RepV (A0++(A1++A2)) (.d tN) (L,(c,b)) (.agg [u,.int .u64 c,.int .u64 b]) []:=fun {u L c b} h=>
   ⟨[u,.int .u64 c,.int .u64 b],rfl,rfl,⟨[u],[.int .u64 c,.int .u64 b],rfl,⟨u,rfl,h⟩,⟨[.int .u64 c],[.int .u64 b],rfl,rfl,rfl⟩⟩,rfl⟩
  exact⟨_,_,[],[],rfl,rfl,key w0,_,_,[],[],rfl,rfl,key w1,_,rfl,key w2⟩
 ·simp only[VRs,VR]
  exact⟨_,_,rfl,⟨_,rfl,_,_,rfl,p8,_,_,rfl,rfl,_,_,rfl,rfl,rfl⟩,_,_,rfl,⟨_,rfl,_,_,rfl,q8,_,_,rfl,rfl,_,_,rfl,rfl,rfl⟩,_,_,rfl,⟨_,rfl,_,_,rfl,s8,_,_,rfl,rfl,_,_,rfl,rfl,rfl⟩,rfl⟩
end Vm
end Go.Proofs.YtahplmacekfjgaaGreatDoor
