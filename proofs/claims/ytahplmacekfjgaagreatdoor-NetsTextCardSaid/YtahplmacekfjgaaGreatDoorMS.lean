/-
  What the rows of this chapter need: the law's net as an argument, the start, the call.
-/
import Derived.Test.YtahplmacekfjgaaGreatDoorQ8
import Derived.Lib.SmallJoins
import Derived.Test.YtahplmacekfjgaaGreatDoorN4
import Derived.Test.YtahplmacekfjgaaGreatDoorTie
import Derived.Test.YtahplmacekfjgaaGreatDoorCards
import Derived.Stop.LaidErr
set_option linter.unusedSimpArgs false
set_option linter.unusedVariables false
set_option linter.unusedSectionVars false
set_option linter.unnecessarySimpa false
namespace Go.Proofs.YtahplmacekfjgaaGreatDoor
open Go.ChangeShapes Go.WideShapes Go.ChangeAt Go.RowKit Go.Deep
namespace Vm
open Go Go.Vm Go.Vm.W Go.Vm.X
set_option maxRecDepth 100000
theorem own:ownKnob Tryz.prog.godebug=none:=by kernel_rfl
theorem kcg:laidOutB Tryz.prog=true:=by kernel_rfl
theorem j3p {H:Type} {enc:TypeId×Value→H} {a:Assume} {C:Checked} {os:Os} {f:FuncId} {fn:Func} {s:ChangeSpec} {conds:List PathCond} {apart fresh handsOn j00:Bool} {X:World→Array Value→Prop}
  (hX:∀(w w':World) (args:Array Value),w.heap=w'.heap→X w args→X w' args)
  (own:ownKnob C.prog.godebug=none) (started:os.Started) (noInit:C.prog.inits.idxOf? f=none) (hfn:C.prog.funcs[f]?=some fn)
  (witness:∃(w:World) (tape:Tape) (i:Input),w.os=os∧(w.forCall tape i).Shaped C.prog∧i.vars=[]∧Input.okWide C.prog (w.forCall tape i) .any w.heap.size f i∧
    ((s.pre enc C.prog fn conds apart (w.forCall tape i).memory i.args∧X (w.forCall tape i).memory i.args)∧sizedMet enc C.prog fn (OpenSpec.ofChange s) apart (w.forCall tape i).memory i.args)∧a.holds C.prog (lone (Frame.enter C.prog f i.args .normal) [] (w.forCall tape i)))
  (contract:∀(W:World) (base:Nat) (args:Array Value) (ds gs:List (DataW H)) (before:List MemPlace),W.ShapedOpen C.prog→
    (∀(j:Nat) t v,fn.params[j]?=some t→args[j]?=some v→Value.okWide C.prog W .any base t v)→
    DataW.Whole enc C.prog fn.params.toList s.vars apart W args.toList ds gs before→X W args→
    (DataW.weightsEach C.prog (fn.params.toList++s.plain.varTypes C.prog) (ds++gs)).all (·≤reachBytes)=true→
    Calls C.prog f args W fun e W'=>∃v,e=.returned v∧s.post enc C.prog fn apart fresh handsOn j00 W args v W'):
  ReturnsInHanded a C os f .any (fun w args=>(s.pre enc C.prog fn conds apart w args∧X w args)∧sizedMet enc C.prog fn (OpenSpec.ofChange s) apart w args) (s.post enc C.prog fn apart fresh handsOn j00):=by
 refine returnsInHanded_of_calls own started noInit witness ?_
 intro w tape i _ hsh _ hok hpre _
 obtain⟨_,_,_,fn',hfn',_,_,_,_,hval⟩:=hok
 obtain rfl:fn'=fn:=Option.some.inj (hfn'.symm.trans hfn)
 obtain⟨⟨⟨ds,gs,before,hw,_⟩,hx⟩,hz⟩:=hpre
 have hw':=DataW.Whole.of_heap (w':=w.forCall tape i) (by rfl) hw
 refine(contract (w.forCall tape i) w.heap.size i.args ds gs before hsh hval hw' (hX _ _ _ (by rfl) hx) (hz.weights hw)).mono fun e W' ⟨v,he,hp⟩=>?_
 subst he
 exact ChangeSpec.post_blind hp
theorem kh0 {B:Base} {ro nx:Nat} {O:List Ent} {H:Tr Blk} (h:HK B ro O H nx) {b:Nat} (h0:B.nx0≤b) (hb:b<nx) (hn:b∉O.map Ent.b) (l:List AV):HK B ro (⟨b,false,.cells l⟩::O) (H.set b (.cells (put l 0 .e) l.length)) nx:=by
 refine⟨h.r0,h.r1,fun x hx=>by rw[Tr.get_set,if_neg (by omega),h.base x hx],fun e he=>?_,by simp only[List.map_cons,List.nodup_cons];exact⟨hn,h.nd⟩⟩
 rcases List.mem_cons.1 he with rfl | he
 ·exact⟨hb,(fun hw=>by cases hw),ka7⟩
 ·obtain⟨e1,e2,e3⟩:=h.ent e he
  refine⟨e1,e2,e3.congr ?_⟩
  rw[Tr.get_set,if_neg fun e=>hn (List.mem_map.2 ⟨_,he,e⟩)]
theorem j6y {P:Program} {w:World} {g:Nat} {t:TypeId} {zero:Array Value} {k:IntKind} (h:w.ShapedOpen P) (hg:g<P.globals.size)
  (h0:((begin P (fun _ _=>0) default).world.heap[g]?).bind Obj.row?=some (zero,t)) (hz:zero.size=1)
  (hb:P.buildable t=true) (hc:P.cellTypes P.depth t=some [t]) (hu:P.underlying t=some (.int k)):∃m t',w.heap[g]?=some (.cells #[.int k m] t' (0,0)):=by
 obtain⟨m,hm⟩:=cell_of_shapedOpen_int h hg h0 hz hb hc hu
 obtain⟨cs,hh,hs,_⟩:=h.1 g zero t hg h0
 refine⟨m,t,?_⟩
 rw[hh]
 obtain⟨cl⟩:=cs
 match cl,hs.trans hz with
 | [v],_=>
   simp only[World.cell?,hh] at hm
   have:v=.int k m:=by simpa using hm
   rw[this]
theorem laidMetH.data {P:Program} {l:List (String×DataW Unit)} {w:World} (h:laidMetH P l w):laidMet P (l.filter fun x=>x.2.handleName?.isNone) w:=by
 unfold laidMetH at h
 generalize hfl:(l.filter fun x=>x.2.handleName?.isSome)=fl at h
 cases fl with
 | nil=>
   have e:(l.filter fun x=>x.2.handleName?.isNone)=l:=by
    rw[List.filter_eq_self]
    intro x hx
    have:=(List.filter_eq_nil_iff.1 hfl) x hx
    cases hn:x.2.handleName? with
    | none=>rfl
    | some s=>rw[hn] at this;exact absurd rfl this
   rw[e];exact h
 | cons a ls=>exact h.1
theorem kjr: "*" ++ "errors.errorString" = "*errors.errorString" :=by decide
theorem keg (u:TypeId) (h:Tryz.prog.typeName? 3 u=some "*errors.errorString"):u=191:=
 typeName_ptr_named (nm:= "errors.errorString") (by rw[kjr];kernel_rfl) (by kernel_rfl) (by decide) u (by rw[kjr];exact h)
theorem j88:∀x∈j89,x∈Rows.netsTextRow.laid.filter fun x=>x.2.handleName?.isNone:=by
 intro x hx
 have hs:j89.all (fun y=>y.2.handleName?.isNone)=true:=by kernel_rfl
 have h2:=List.all_eq_true.1 hs x hx
 unfold j89 at hx
 obtain⟨y,hy,rfl⟩:=List.mem_map.1 hx
 exact List.mem_filter.2 ⟨List.fst_mem_of_mem_zipIdx (List.mem_filter.1 hy).1,h2⟩
theorem ki9:∀e∈es,e.1<8:=by
 have:(es.all fun e=>e.1.blt 8)=true:=by kernel_rfl
 intro e he
 simpa using List.all_eq_true.1 this e he
theorem start {W:World} (hsh:W.ShapedOpen Tryz.prog) (hLH:laidMetH Tryz.prog Rows.netsTextRow.laid W) (ps:List Vm.Loc):∃mx p1 p2,HR (j1t W 8 (p2::p1::ps)) (BB mx).H0 W:=by
 have hL:=laidMetH.data hLH
 obtain⟨mx,t3,h3⟩:=j6y (g:=3) (t:=3) (zero:=#[.int .i64 0]) hsh (of_decide_eq_true (by kernel_rfl)) (by kernel_rfl) rfl (by kernel_rfl) (by kernel_rfl) Tryz.underlying3
 obtain⟨b1,o1,t1,h1⟩:=jx5 hL (nm:= "strconv.ErrSyntax") (name:= "*errors.errorString") (List.mem_of_getElem? (i:=5) rfl) (g:=1) (t:=84) (ty:=191) (e:=193) (by kernel_rfl) (by kernel_rfl) Tryz.underlying84 keg Tryz.underlying191 (of_decide_eq_true (by kernel_rfl))
 obtain⟨b2,o2,t2,h2⟩:=jx5 hL (nm:= "strconv.ErrRange") (name:= "*errors.errorString") (List.mem_of_getElem? (i:=4) rfl) (g:=2) (t:=84) (ty:=191) (e:=193) (by kernel_rfl) (by kernel_rfl) Tryz.underlying84 keg Tryz.underlying191 (of_decide_eq_true (by kernel_rfl))
 refine⟨mx,⟨b1,o1,0⟩,⟨b2,o2,0⟩,?_⟩
 have:=kdq hL j88 ki8 (ex:=ex mx) 8 (⟨b2,o2,0⟩::⟨b1,o1,0⟩::ps) ki9 (by
  intro e he
  simp only[ex,List.mem_cons,List.not_mem_nil,or_false] at he
  rcases he with rfl | rfl | rfl
  ·exact⟨by show 3<8;decide,_,_,h3,_,_,rfl,by simp[VR],rfl⟩
  ·exact⟨by decide,_,_,h2,_,_,rfl,by simp[VR,j1t],rfl⟩
  ·exact⟨by decide,_,_,h1,_,_,rfl,by simp[VR,j1t],rfl⟩)
 rw[kdr] at this
 exact this
theorem j8p (mx:Int):∀x,((BB mx).H0.get x).isSome→x<RO:=fun x hx=>by
 have:=kjm mx x hx
 exact Nat.lt_of_lt_of_le this (show nx0≤RO by decide)
theorem j8q (mx:Int):HK (BB mx) RO [] (BB mx).H0 RO:=⟨show nx0≤RO by decide,by decide,fun _ _=>rfl,(fun _ h=>by cases h),List.nodup_nil⟩
theorem ki6 {W:World} {ps:List Vm.Loc}:GLok gl (j1t W 8 ps):=fun g hg=>by
 have:∀g∈gl,g<8:=by decide
 obtain⟨l,h1,h2,h3⟩:=j5x (w:=W) (ps:=ps) (this g (List.contains_iff_mem.1 hg))
 exact⟨l,h1,h2,h3⟩
noncomputable abbrev wit (os:Os):World:=(World.doorLaid Tryz.prog 600 os).layVars Tryz.prog [("unicode/utf8.first",Rows.laid_unicode_utf8_first)]
theorem keb (os:Os):(wit os).os=os:=World.layVars_os _ _ _
theorem j9u (os:Os) (args:Array Value):laidMetH Tryz.prog Rows.netsTextRow.laid ((wit os).forCall (fun _ _=>0) ⟨#[],args,[]⟩).memory:=
 laidMetH_of_parts3 (fuel:=8) (laidMet_of_run' 8 (by kernel_rfl) (by kernel_rfl)) (by kernel_rfl) (by kernel_rfl)
theorem ka9 {z:Int} (h:(Lit.int .u8 z).wf=true):0≤z∧z≤255:=by
 simp[Lit.wf,IntKind.min,IntKind.max,IntKind.signed,IntKind.bits] at h
 omega
theorem kae {z:Int} (h:(Lit.int .u64 z).wf=true):0≤z∧z≤18446744073709551615:=by
 simp[Lit.wf,IntKind.min,IntKind.max,IntKind.signed,IntKind.bits] at h
 omega
theorem jou {W:World} {p q:List MemPlace} (h:W.noneFrozen p) (hq:∀x∈q,x∈p):W.noneFrozen q:=fun b o hm=>h b o (hq _ hm)
theorem kc7:Tryz.prog.cellsOf 25=3:=by kernel_rfl
theorem kc8:Tryz.prog.cellsOf 22=1:=by kernel_rfl
theorem j7m:Tryz.prog.cellsOf 23=1:=by kernel_rfl
theorem j9z:Tryz.prog.cellsOf 107=3:=by kernel_rfl
theorem jkr:Tryz.prog.cellsOf 5=1:=by kernel_rfl
theorem j93:Tryz.prog.bytesOf 107=3:=by kernel_rfl
def kim (W:World) (v:Value) (l:Vm.Loc) (L:List (List Int)):Prop:=(v=.slice none 0 0∧L=[])∨∃(g:Nat→Int) (len cap off:Nat),L=jzv g len∧v=.slice (some ⟨l.blk,off,none⟩) len cap∧len≤cap∧(off=l.base∨cap=0)∧l.base+cap*3=l.lim∧
 ∀ρ,Blk.Rel false ρ (.cells (put ((List.range (len*3)).map fun q=>AV.int .u8 (g q)) 0 .e) (len*3)) l W
theorem kde {H:Type} {enc:TypeId×Value→H} {W:World} {fuel b0:Nat} {v:Value} {x:DataW H×List MemPlace}
  (h:DataW.trod enc Tryz.prog W 0 (fun _=>true) true fuel 22 [v]=some x) (hok:Cell.okWide Tryz.prog W .any b0 22 v) (hfz:W.noneFrozen x.2) (hz:∀n∈x.1.weights Tryz.prog 22,n≤reachBytes):∃l L,jyw L∧L.length≤140737488355328∧kim W v l L:=by
 have jbh:∀a len cap,v=.slice (some a) len cap→len≤140737488355328:=fun a len cap e=>by
  rcases open_slice Tryz.underlying22 h with⟨hv,_⟩ | ⟨a',len',cap',m,n,D,Pl,hv,_,hl,hm,hmm,hx,hV⟩
  ·rw[e] at hv;simp at hv
  ·rw[e] at hv
   simp only[List.cons.injEq,Value.slice.injEq,and_true] at hv
   obtain⟨_,rfl,rfl⟩:=hv
   have h1:=hz ((((List.range len).map D).length+ ((List.range (m-len)).map fun j=>D (len+j)).length)*Tryz.prog.bytesOf 107) (by
    rw[hx]
    simp only[DataW.weights,Tryz.underlying22]
    exact List.mem_cons_self ..)
   rw[j93] at h1
   simp only[List.length_map,List.length_range] at h1
   have:=reachBytes_lt
   omega
 rcases j3m Tryz.underlying22 Tryz.underlying107 Tryz.underlying5 jkr j9z h hok hfz with rfl | ⟨g,len,cap,off,blk,base,lim,h1,h2,h3,h4,h5,h6⟩
 ·exact⟨⟨0,0,0⟩,[],(fun z hz=>by cases hz),by simp,.inl ⟨rfl,rfl⟩⟩
 ·refine⟨⟨blk,base,lim⟩,_,fun y hy=>?_,?_,.inr ⟨g,len,cap,off,rfl,h2,h3,h4,h5,h6⟩⟩
  ·obtain⟨i,hi,rfl⟩:=List.mem_map.1 hy
   have hi:=List.mem_range.1 hi
   refine⟨rfl,fun z hz=>?_⟩
   simp only[List.mem_cons,List.not_mem_nil,or_false] at hz
   rcases hz with rfl | rfl | rfl
   ·exact ka9 (h1 _ (by omega))
   ·exact ka9 (h1 _ (by omega))
   ·exact ka9 (h1 _ (by omega))
  ·rw[jla]
   exact jbh _ _ _ h2
theorem j31 {B:Base} {ρ:RM} {H:Tr Blk} {W:World} {O:List Ent} {b:Nat} {v:Value} {l:Vm.Loc} {L:List (List Int)} (ha:kim W v l L) (hl:ρ b=some l) (hR:HR ρ H W) (hlt:∀x,(H.get x).isSome→x<RO) (hk:HK B RO O H RO) (h0:B.nx0≤b) (hb:b<RO) (hn:b∉O.map Ent.b):
  ∃H' O' av A,HR ρ H' W∧(∀x,(H'.get x).isSome→x<RO)∧HK B RO O' H' RO∧(∀x∈O'.map Ent.b,x=b∨x∈O.map Ent.b)∧(∀x∈(A:jai),Has O' x.1 x.2)∧(∀c x,Has O c x→Has O' c x)∧SlR A 3 (jcv (jbo A (.arr 3 (.int .u8)))) L av∧VR ρ av v:=by
 rcases ha with⟨rfl,rfl⟩ | ⟨g,len,cap,off,rfl,rfl,h1,h2,h3,h4⟩
 ·exact⟨H,O,.nils,[],hR,hlt,hk,fun x h=>.inr h,(fun x hx=>by cases hx),fun _ _ h=>h,.inl ⟨rfl,rfl⟩,by simp[VR]⟩
 ·generalize hm:((List.range (len*3)).map fun q=>AV.int .u8 (g q))=M at h4
  have e1:M.length=len*3:=by rw[←hm];simp
  obtain⟨q1,q2⟩:=khz hR hlt hb hl (h4 ρ)
  refine⟨_,⟨b,false,.cells M⟩::O,.sl b 0 len (some cap) 3,[(b,.cells M)],q1,q2,?_,fun x hx=>?_,fun x hx=>?_,fun _ _ h=>.there h,.inr ⟨b,0,some cap,M,by rw[jla],List.mem_singleton.2 rfl,fun c hc=>by cases hc;rw[jla];exact h1,by rw[jla];omega,?_⟩,?_⟩
  ·have:=kh0 hk h0 hb hn M
   rw[e1] at this
   exact this
  ·simpa using hx
  ·rw[List.mem_singleton.1 hx];exact .here
  ·rw[List.drop_zero,jla,List.take_of_length_le (by omega),←hm]
   exact jxd len
  ·simp only[VR]
   exact⟨l,cap,off,hl,rfl,h1,by omega,by omega,.inl ⟨rfl,by omega⟩⟩
theorem ke9 {H:Type} {enc:TypeId×Value→H} {W:World} {b0:Nat} {v:Value} {d:DataW H} {p:List MemPlace} (hv:Value.okWide Tryz.prog W .any b0 25 v) (h:DataW.Trod enc Tryz.prog W 0 (fun _=>true) true 25 v d p) (hf:W.noneFrozen p) (hz:∀n∈d.weights Tryz.prog 25,n≤reachBytes):
  ∃(v0:Value) (c b:Int) (l:Vm.Loc) (L:List (List Int)),v=.agg #[v0,.int .u64 c,.int .u64 b]∧jyw L∧L.length≤140737488355328∧(0≤c∧c≤18446744073709551615)∧(0≤b∧b≤18446744073709551615)∧kim W v0 l L:=by
 obtain⟨cs,rfl,hsz⟩:=okWide_struct Tryz.underlying25 hv
 obtain⟨c0,c1,c2,rfl⟩:=Joins.array3 (hsz.trans kc7)
 obtain⟨fu,hfu⟩:=h
 obtain⟨y0,y1,y2,n,hx,_,h0,h1,h2⟩:=trod_struct3 Tryz.underlying25 hfu
 have h0:DataW.trod enc Tryz.prog W 0 (fun _=>true) true n 22 [c0]=some y0:=by simpa[Value.cells,kc8] using h0
 have h1:DataW.trod enc Tryz.prog W 0 (fun _=>true) true n 23 [c1]=some y1:=by simpa[Value.cells,j7m] using h1
 have h2:DataW.trod enc Tryz.prog W 0 (fun _=>true) true n 23 [c2]=some y2:=by simpa[Value.cells,j7m] using h2
 obtain⟨c,ec,_,wc⟩:=DataW.trod_int Tryz.underlying23 h1
 obtain⟨b,eb,_,wb⟩:=DataW.trod_int Tryz.underlying23 h2
 have hok:Cell.okWide Tryz.prog W .any b0 22 c0:=by
  simp only[Value.okWide,Tryz.underlying25] at hv
  obtain⟨cs,e,_,ts,hts,_,hc⟩:=hv
  cases e
  have e2:Tryz.prog.cellTypes Tryz.prog.depth 25=some [22,23,23]:=by kernel_rfl
  rw[e2] at hts
  cases hts
  obtain⟨u,hu,hk⟩:=hc 0 c0 rfl
  have:u=22:=by simp at hu;exact hu.symm
  rw[this] at hk
  exact hk
 have e1:d=.agg [y0.1,y1.1,y2.1]∧p=y0.2++(y1.2++y2.2):=(Prod.mk.injEq _ _ _ _▸hx:_∧_)
 obtain⟨l,L,w0,w1,a0⟩:=kde h0 hok (jou hf fun x hx=>by rw[e1.2];exact List.mem_append.2 (.inl hx)) (fun n hn=>hz n (by
  rw[e1.1]
  simp only[DataW.weights,Tryz.underlying25,DataW.weightsEach,List.map_cons,List.map_nil]
  exact List.mem_append.2 (.inl hn)))
 cases ec
 cases eb
 exact⟨c0,c,b,l,L,rfl,w0,w1,kae wc,kae wb,a0⟩
abbrev tN:Ty:=.prod (.sl (.arr 3 (.int .u8))) (.prod (.int .u64) (.int .u64))
theorem kfk {m:Nat} {f:FuncId} {run:jho [.d tN,.d .str]→Option (jho [.d .bool])} (ho:∀mx,OKs (BB mx) (jkm mx) prog m [⟨f,[.d tN,.d .str],[.d .bool],run⟩]) {c0 b0:Int} {W:World} (hsh:W.ShapedOpen Tryz.prog) (hL:laidMetH Tryz.prog Rows.netsTextRow.laid W) {v0:Value} {l0:Vm.Loc} {L0:List (List Int)} (bs:ByteArray)
  (hrun:run ((L0,(c0,b0)),bs.data.toList.map UInt8.toNat)=some true) (a0:kim W v0 l0 L0):
  Calls Tryz.prog f #[.agg #[v0,.int .u64 c0,.int .u64 b0],.string bs] W fun e W'=>e=.returned (.bool true)∧Below W.heap.size W W':=by
 obtain⟨mx,p1,p2,hR⟩:=start hsh hL [l0]
 have r0:j1t W 8 [p2,p1,l0] 10=some l0:=rfl
 obtain⟨HA,O0,u0,A0,q1,q2,q3,q4,q5,q6,q7,q8⟩:=j31 a0 r0 hR (j8p mx) (j8q mx) (show nx0≤10 by decide) (by decide) (by simp)
 refine j0v (t:=⟨f,[.d tN,.d .str],[.d .bool],run⟩) (kbe mx) mixed jvg (n:=m) (ho mx _ (List.mem_singleton.2 rfl) m (Nat.le_refl _)) rfl (a:=((L0,(c0,b0)),bs.data.toList.map UInt8.toNat)) hrun q3 (A:=A0) (fun x hx=>.inl (q5 x hx)) (vs:=[.agg [u0,.int .u64 c0,.int .u64 b0],.str (bs.data.toList.map UInt8.toNat)]) ?_ q1 ki6 (j5w (show 8+3≤RO by decide)) q2 ?_
 ·exact⟨_,_,[],[],rfl,rfl,⟨[u0,.int .u64 c0,.int .u64 b0],rfl,rfl,⟨[u0],[.int .u64 c0,.int .u64 b0],rfl,⟨u0,rfl,q7⟩,⟨[.int .u64 c0],[.int .u64 b0],rfl,rfl,rfl⟩⟩,rfl⟩,_,rfl,⟨rfl,rfl,rfl⟩⟩
 ·simp only[VRs,VR]
  exact⟨_,_,rfl,⟨_,rfl,_,_,rfl,q8,_,_,rfl,rfl,_,_,rfl,rfl,rfl⟩,_,_,rfl,⟨bs,rfl,rfl⟩,rfl⟩
end Vm
end Go.Proofs.YtahplmacekfjgaaGreatDoor
