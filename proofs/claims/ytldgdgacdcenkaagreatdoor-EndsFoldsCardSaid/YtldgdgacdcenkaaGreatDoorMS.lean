/-
  What the rows of this chapter need: the start's memory with what is not known of it, slice arguments, the call.
  Ends: a law's call on a T; on a T and a step.
-/
import Derived.Test.YtldgdgacdcenkaaGreatDoorQ8
import Derived.Test.YtldgdgacdcenkaaGreatDoorXG7
import Derived.Test.YtldgdgacdcenkaaGreatDoorTie
import Derived.Test.YtldgdgacdcenkaaGreatDoorCards
import Derived.Lib.SmallJoins
import Derived.Handed
import Derived.ChangeMaps
import Derived.Test.YtldgdgacdcenkaaGreatDoorPLa
import Derived.Shelf.Vars
import Derived.ChangeMaps5
import Derived.Stop.LaidErr
import Derived.LaidLaws
import Derived.LaidMore
import Derived.Stop.Joined
set_option linter.unusedSimpArgs false
set_option linter.unusedVariables false
set_option linter.unusedSectionVars false
set_option linter.unnecessarySimpa false
namespace Go.Proofs.YtldgdgacdcenkaaGreatDoor
open Go.ChangeShapes Go.WideShapes Go.ChangeAt Go.RowKit
namespace Vm
open Go Go.Vm Go.Vm.W Go.Vm.X
set_option maxRecDepth 100000
theorem own:ownKnob Tryz.prog.godebug=none:=by kernel_rfl
theorem laidOut:laidOutB Tryz.prog=true:=by kernel_rfl
theorem rows_shaped {H:Type} {enc:TypeId×Value→H} {a:Assume} {C:Checked} {os:Os} {f:FuncId} {fn:Func} {s:ChangeSpec} {conds:List PathCond} {apart fresh handsOn again:Bool} {X:World→Array Value→Prop}
  (hX:∀(w w':World) (args:Array Value),w.heap=w'.heap→X w args→X w' args)
  (own:ownKnob C.prog.godebug=none) (started:os.Started) (noInit:C.prog.inits.idxOf? f=none) (hfn:C.prog.funcs[f]?=some fn)
  (witness:∃(w:World) (tape:Tape) (i:Input),w.os=os∧(w.forCall tape i).Shaped C.prog∧i.vars=[]∧Input.okWide C.prog (w.forCall tape i) .any w.heap.size f i∧
    ((s.pre enc C.prog fn conds apart (w.forCall tape i).memory i.args∧X (w.forCall tape i).memory i.args)∧sizedMet enc C.prog fn (OpenSpec.ofChange s) apart (w.forCall tape i).memory i.args)∧a.holds C.prog (lone (Frame.enter C.prog f i.args .normal) [] (w.forCall tape i)))
  (contract:∀(W:World) (base:Nat) (args:Array Value) (ds gs:List (DataW H)) (before:List MemPlace),W.ShapedOpen C.prog→
    (∀(j:Nat) t v,fn.params[j]?=some t→args[j]?=some v→Value.okWide C.prog W .any base t v)→
    DataW.Whole enc C.prog fn.params.toList s.vars apart W args.toList ds gs before→X W args→
    Calls C.prog f args W fun e W'=>∃v,e=.returned v∧s.post enc C.prog fn apart fresh handsOn again W args v W'):
  ReturnsInHanded a C os f .any (fun w args=>(s.pre enc C.prog fn conds apart w args∧X w args)∧sizedMet enc C.prog fn (OpenSpec.ofChange s) apart w args) (s.post enc C.prog fn apart fresh handsOn again):=by
 refine returnsInHanded_of_calls own started noInit witness ?_
 intro w tape i _ hsh _ hok hpre _
 obtain⟨_,_,_,fn',hfn',_,_,_,_,hval⟩:=hok
 obtain rfl:fn'=fn:=Option.some.inj (hfn'.symm.trans hfn)
 obtain⟨⟨⟨ds,gs,before,hw,_⟩,hx⟩,_⟩:=hpre
 have hw':=DataW.Whole.of_heap (w':=w.forCall tape i) (by rfl) hw
 refine(contract (w.forCall tape i) w.heap.size i.args ds gs before hsh hval hw' (hX _ _ _ (by rfl) hx)).mono fun e W' ⟨v,he,hp⟩=>?_
 subst he
 exact ChangeSpec.post_blind hp
theorem int_block {P:Program} {w:World} {g:Nat} {t:TypeId} {zero:Array Value} {k:IntKind} (h:w.ShapedOpen P) (hg:g<P.globals.size)
  (h0:((begin P (fun _ _=>0) default).world.heap[g]?).bind Obj.row?=some (zero,t)) (hz:zero.size=1)
  (hb:P.buildable t=true) (hc:P.cellTypes P.depth t=some [t]) (hu:P.underlying t=some (.int k)):∃m t',w.heap[g]?=some (.cells #[.int k m] t' (0,0)):=by
 obtain⟨m,hm⟩:=cell_of_shapedOpen_int h hg h0 hz hb hc hu
 obtain⟨cs,hh,hs,_⟩:=h.1 g zero t hg h0
 refine⟨m,t,?_⟩
 rw[hh]
 obtain⟨cl⟩:=cs
 match cl,hs.trans hz with
 | [v],_=>
   simp only[World.cell?,hh] at hm
   have:v=.int k m:=by simpa using hm
   rw[this]
def ArgOK (k:IntKind) (W:World) (v:Value) (l:Vm.Loc) (L:List Int):Prop:=(v=.slice none 0 0∧L=[])∨∃cap off,v=.slice (some ⟨l.blk,off,none⟩) L.length cap∧L.length≤cap∧(off=l.base∨cap=0)∧l.base+cap=l.lim∧
 ∀ρ,Blk.Rel false ρ (.cells (put (L.map (AV.int k)) 0 .e) L.length) l W
theorem arg_ok {k:IntKind} {H:Type} {enc:TypeId×Value→H} {W:World} {fuel b0:Nat} {t e:TypeId} {v:Value} {x:DataW H×List MemPlace} (ht:Tryz.prog.underlying t=some (.slice e)) (he:Tryz.prog.underlying e=some (.int k)) (hc:Tryz.prog.cellsOf e=1)
  (h:DataW.trod enc Tryz.prog W 0 (fun _=>true) true fuel t [v]=some x) (hok:Cell.okWide Tryz.prog W .any b0 t v) (hfz:W.noneFrozen x.2):∃l L,(∀z∈L,(Lit.int k z).wf=true)∧ArgOK k W v l L:=by
 rcases slice_arg ht he hc h hok hfz with rfl | ⟨L,cap,off,blk,base,lim,h1,h2,h3,h4,h5,h6⟩
 ·exact⟨⟨0,0,0⟩,[],(fun z hz=>by cases hz),.inl ⟨rfl,rfl⟩⟩
 ·exact⟨⟨blk,base,lim⟩,L,h1,.inr ⟨cap,off,h2,h3,h4,h5,h6⟩⟩
theorem HK_lay {B:Base} {ro nx:Nat} {O:List Ent} {H:Tr Blk} (h:HK B ro O H nx) {b:Nat} (h0:B.nx0≤b) (hb:b<nx) (hn:b∉O.map Ent.b) (l:List AV):HK B ro (⟨b,false,.cells l⟩::O) (H.set b (.cells (put l 0 .e) l.length)) nx:=by
 refine⟨h.r0,h.r1,fun x hx=>by rw[Tr.get_set,if_neg (by omega),h.base x hx],fun e he=>?_,by simp only[List.map_cons,List.nodup_cons];exact⟨hn,h.nd⟩⟩
 rcases List.mem_cons.1 he with rfl | he
 ·exact⟨hb,(fun hw=>by cases hw),At_new⟩
 ·obtain⟨e1,e2,e3⟩:=h.ent e he
  refine⟨e1,e2,e3.congr ?_⟩
  rw[Tr.get_set,if_neg fun e=>hn (List.mem_map.2 ⟨_,he,e⟩)]
theorem lay_slice {k:IntKind} {B:Base} {ρ:RM} {H:Tr Blk} {W:World} {O:List Ent} {b:Nat} {v:Value} {l:Vm.Loc} {L:List Int} (ha:ArgOK k W v l L) (hl:ρ b=some l) (hR:HR ρ H W) (hlt:∀x,(H.get x).isSome→x<RO) (hk:HK B RO O H RO) (h0:B.nx0≤b) (hb:b<RO) (hn:b∉O.map Ent.b):
  ∃H' O' av A,HR ρ H' W∧(∀x,(H'.get x).isSome→x<RO)∧HK B RO O' H' RO∧(∀x∈O'.map Ent.b,x=b∨x∈O.map Ent.b)∧(∀x∈(A:Facts),Has O' x.1 x.2)∧(∀c x,Has O c x→Has O' c x)∧SlR A 1 (RelL (RelC A (.int k))) L av∧VR ρ av v:=by
 rcases ha with⟨rfl,rfl⟩ | ⟨cap,off,rfl,h1,h2,h3,h4⟩
 ·exact⟨H,O,.nils,[],hR,hlt,hk,fun x h=>.inr h,(fun x hx=>by cases hx),fun _ _ h=>h,.inl ⟨rfl,rfl⟩,by simp[VR]⟩
 ·have e1:(L.map (AV.int k)).length=L.length:=by simp
  obtain⟨q1,q2⟩:=HR_add hR hlt hb hl (h4 ρ)
  refine⟨_,⟨b,false,.cells (L.map (AV.int k))⟩::O,.sl b 0 L.length (some cap) 1,[(b,.cells (L.map (AV.int k)))],q1,q2,?_,fun x hx=>?_,fun x hx=>?_,fun _ _ h=>.there h,.inr ⟨b,0,some cap,_,rfl,List.mem_singleton.2 rfl,fun c hc=>by cases hc;exact h1,by simp,?_⟩,?_⟩
  ·have:=HK_lay hk h0 hb hn (L.map (AV.int k))
   rw[e1] at this
   exact this
  ·simpa using hx
  ·rw[List.mem_singleton.1 hx];exact .here
  ·rw[List.drop_zero,Nat.mul_one,List.take_of_length_le (by simp)]
   exact RelL_of_map (P:=RelC _ (.int k)) (f:=AV.int k) (fun _=>rfl) L
  ·simp only[VR]
   exact⟨l,cap,off,hl,rfl,h1,by omega,by omega,.inl ⟨rfl,by omega⟩⟩
theorem laidMetH.data {P:Program} {l:List (String×DataW Unit)} {w:World} (h:laidMetH P l w):laidMet P (l.filter fun x=>x.2.handleName?.isNone) w:=by
 unfold laidMetH at h
 generalize hfl:(l.filter fun x=>x.2.handleName?.isSome)=fl at h
 cases fl with
 | nil=>
   have e:(l.filter fun x=>x.2.handleName?.isNone)=l:=by
    rw[List.filter_eq_self]
    intro x hx
    have:=(List.filter_eq_nil_iff.1 hfl) x hx
    cases hn:x.2.handleName? with
    | none=>rfl
    | some s=>rw[hn] at this;exact absurd rfl this
   rw[e];exact h
 | cons a ls=>exact h.1
theorem nil_of_trod {P:Program} {w:World} {base:Nat} {sp:Nat→Bool} {fuel:Nat} {t:TypeId} {ps rs:Array TypeId} {va:Bool} {v:Value} {q:List MemPlace} (ht:P.underlying t=some (.func ps rs va))
  (h:DataW.trod (funcToken P) P w base sp true fuel t [v]=some (.nil,q)):v=.nilFunc:=by
 cases fuel with
 | zero=>simp[DataW.trod] at h
 | succ n=>cases v<;>simp[DataW.trod,ht] at h;rfl
theorem cells70:Tryz.prog.cellsOf 70=4:=by kernel_rfl
theorem cells69:Tryz.prog.cellsOf 69=1:=by kernel_rfl
theorem four {H:Type} {f:Nat→Option (DataW H×List MemPlace)} {a b c d:DataW H} {p:List MemPlace} (h:((List.range 4).mapM f).map (fun xs=>((.agg (xs.map (·.1)),xs.flatMap (·.2)):DataW H×List MemPlace))=some (.agg [a,b,c,d],p)):
  (∃q,f 0=some (a,q))∧(∃q,f 1=some (b,q))∧(∃q,f 2=some (c,q))∧∃q,f 3=some (d,q):=by
 obtain⟨xs,h1,h2⟩:=Option.map_eq_some_iff.1 h
 simp only[show List.range 4=[0,1,2,3] from rfl,List.mapM_cons,List.mapM_nil,Option.bind_eq_bind,Option.bind_eq_some_iff,Option.pure_def,Option.some.injEq] at h1
 obtain⟨x0,e0,_,⟨x1,e1,_,⟨x2,e2,_,⟨x3,e3,_,rfl,rfl⟩,rfl⟩,rfl⟩,rfl⟩:=h1
 simp only[List.map_cons,List.map_nil,Prod.mk.injEq,DataW.agg.injEq,List.cons.injEq,and_true] at h2
 obtain⟨⟨rfl,rfl,rfl,rfl⟩, -⟩:=h2
 exact⟨⟨_,e0⟩,⟨_,e1⟩,⟨_,e2⟩,⟨_,e3⟩⟩
theorem allowed_holds {W:World} (hsh:W.ShapedOpen Tryz.prog) (hL:laidMetH Tryz.prog Rows.endsFoldRow.laid W):∃t,W.heap[0]?=some (.cells #[.nilFunc,.func (.func 144) #[] #[],.func (.func 145) #[] #[],.func (.func 146) #[] #[]] t (0,0)):=by
 obtain⟨g,t,cs,fuel,p,hg,ht,hv,hd⟩:=laidMetH.funcs hL (n:= "crimp/ends.allowed") (List.mem_of_getElem? (i:=7) rfl)
 obtain rfl:=Option.some.inj ((show Tryz.prog.globalNamed "crimp/ends.allowed" =some 0 by kernel_rfl).symm.trans hg)
 obtain rfl:=Option.some.inj ((show(Tryz.prog.globals[0]?).map (·.type)=some 70 by kernel_rfl).symm.trans ht)
 obtain⟨cs',hh,hs,_⟩:=hsh.1 0 #[.nilFunc,.nilFunc,.nilFunc,.nilFunc] 70 (of_decide_eq_true (by kernel_rfl)) (by kernel_rfl)
 have hcs:cs=cs':=by
  unfold World.var? at hv
  rw[hg,Option.bind_some,hh] at hv
  exact(Option.some.inj hv).symm
 subst hcs
 obtain⟨cl⟩:=cs
 match cl,hs with
 | [c0,c1,c2,c3],_=>
   cases fuel with
   | zero=>cases hd
   | succ n=>
     unfold DataW.trod at hd
     simp only[Tryz.underlying70,cells70,cells69,List.length_cons,List.length_nil,if_true] at hd
     obtain⟨⟨_,e0⟩,⟨_,e1⟩,⟨_,e2⟩,⟨_,e3⟩⟩:=four (a:=.nil) hd
     obtain rfl:=nil_of_trod Tryz.underlying69 e0
     obtain rfl:=func_of_trod (f0:=144) Tryz.underlying69 (by kernel_rfl) e1
     obtain rfl:=func_of_trod (f0:=145) Tryz.underlying69 (by kernel_rfl) e2
     obtain rfl:=func_of_trod (f0:=146) Tryz.underlying69 (by kernel_rfl) e3
     exact⟨70,hh⟩
theorem star: "*" ++ "errors.errorString" = "*errors.errorString" :=by decide
theorem tn_at (u:TypeId) (h:Tryz.prog.typeName? 3 u=some "*errors.errorString"):u=163:=
 typeName_ptr_named (nm:= "errors.errorString") (by rw[star];kernel_rfl) (by kernel_rfl) (by decide) u (by rw[star];exact h)
theorem laidS_in:∀x∈laidS,x∈Rows.endsFoldRow.laid.filter fun x=>x.2.handleName?.isNone:=by
 intro x hx
 have hs:laidS.all (fun y=>y.2.handleName?.isNone)=true:=by kernel_rfl
 have h2:=List.all_eq_true.1 hs x hx
 unfold laidS at hx
 obtain⟨y,hy,rfl⟩:=List.mem_map.1 hx
 exact List.mem_filter.2 ⟨List.fst_mem_of_mem_zipIdx (List.mem_filter.1 hy).1,h2⟩
theorem es_lt:∀e∈es,e.1<10:=by
 have:(es.all fun e=>e.1.blt 10)=true:=by kernel_rfl
 intro e he
 simpa using List.all_eq_true.1 this e he
theorem start {W:World} (hsh:W.ShapedOpen Tryz.prog) (hLH:laidMetH Tryz.prog Rows.endsFoldRow.laid W) (ps:List Vm.Loc):∃mx p1 p2,HR (rho1 W 10 (p2::p1::ps)) (BB mx).H0 W:=by
 have hL:=laidMetH.data hLH
 obtain⟨mx,t3,h3⟩:=int_block (g:=5) (t:=3) (zero:=#[.int .i64 0]) hsh (of_decide_eq_true (by kernel_rfl)) (by kernel_rfl) rfl (by kernel_rfl) (by kernel_rfl) Tryz.underlying3
 obtain⟨b1,o1,t1,h1⟩:=ifc_holds hL (nm:= "strconv.ErrSyntax") (name:= "*errors.errorString") (List.mem_of_getElem? (i:=5) rfl) (g:=2) (t:=111) (ty:=163) (e:=165) (by kernel_rfl) (by kernel_rfl) Tryz.underlying111 tn_at Tryz.underlying163 (of_decide_eq_true (by kernel_rfl))
 obtain⟨b2,o2,t2,h2⟩:=ifc_holds hL (nm:= "strconv.ErrRange") (name:= "*errors.errorString") (List.mem_of_getElem? (i:=4) rfl) (g:=3) (t:=111) (ty:=163) (e:=165) (by kernel_rfl) (by kernel_rfl) Tryz.underlying111 tn_at Tryz.underlying163 (of_decide_eq_true (by kernel_rfl))
 obtain⟨t4,h4⟩:=allowed_holds hsh hLH
 refine⟨mx,⟨b1,o1,0⟩,⟨b2,o2,0⟩,?_⟩
 have:=HR_more hL laidS_in es_ok (ex:=ex mx) 10 (⟨b2,o2,0⟩::⟨b1,o1,0⟩::ps) es_lt (by
  intro e he
  simp only[ex,List.mem_cons,List.not_mem_nil,or_false] at he
  rcases he with rfl | rfl | rfl | rfl
  ·exact⟨by show 5<10;decide,_,_,h3,_,_,rfl,by simp[VR],rfl⟩
  ·exact⟨by decide,_,_,h2,_,_,rfl,by simp[VR,rho1],rfl⟩
  ·exact⟨by decide,_,_,h1,_,_,rfl,by simp[VR,rho1],rfl⟩
  ·exact⟨by decide,_,_,h4,by simp[VRs,VR]⟩)
 rw[H0_eq] at this
 exact this
theorem start_lt (mx:Int):∀x,((BB mx).H0.get x).isSome→x<RO:=fun x hx=>by
 have:=BB_wf mx x hx
 exact Nat.lt_of_lt_of_le this (show nx0≤RO by decide)
theorem start_hk (mx:Int):HK (BB mx) RO [] (BB mx).H0 RO:=⟨show nx0≤RO by decide,by decide,fun _ _=>rfl,(fun _ h=>by cases h),List.nodup_nil⟩
theorem gl_ok {W:World} {ps:List Vm.Loc}:GLok gl (rho1 W 10 ps):=fun g hg=>by
 have:∀g∈gl,g<10:=by decide
 obtain⟨l,h1,h2,h3⟩:=rho1_at (w:=W) (ps:=ps) (this g (List.contains_iff_mem.1 hg))
 exact⟨l,h1,h2,h3⟩
noncomputable abbrev wit (os:Os):World:=(World.doorLaid Tryz.prog 600 os).layVars Tryz.prog [("unicode/utf8.first",Rows.laid_unicode_utf8_first)]
theorem wit_os (os:Os):(wit os).os=os:=World.layVars_os _ _ _
theorem door_met (os:Os) (args:Array Value):laidMetH Tryz.prog Rows.endsFoldRow.laid ((wit os).forCall (fun _ _=>0) ⟨#[],args,[]⟩).memory:=
 laidMetH_of_parts3 (fuel:=8) (laidMet_of_run' 8 (by kernel_rfl) (by kernel_rfl)) (by kernel_rfl) (by kernel_rfl)
theorem u8_bd {z:Int} (h:(Lit.int .u8 z).wf=true):0≤z∧z≤255:=by
 simp[Lit.wf,IntKind.min,IntKind.max,IntKind.signed,IntKind.bits] at h
 omega
theorem noneFrozen_of {W:World} {p q:List MemPlace} (h:W.noneFrozen p) (hq:∀x∈q,x∈p):W.noneFrozen q:=fun b o hm=>h b o (hq _ hm)
theorem cells24:Tryz.prog.cellsOf 24=2:=by kernel_rfl
theorem cells5:Tryz.prog.cellsOf 5=1:=by kernel_rfl
theorem open_T {H:Type} {enc:TypeId×Value→H} {W:World} {b0:Nat} {v:Value} {d:DataW H} {p:List MemPlace} (hv:Value.okWide Tryz.prog W .any b0 24 v) (h:DataW.Trod enc Tryz.prog W 0 (fun _=>true) true 24 v d p) (hf:W.noneFrozen p):
  ∃(v0 v1:Value) (l0 l1:Vm.Loc) (L0 L1:List Int),v=.agg #[v0,v1]∧X.bytes L0∧X.bytes L1∧ArgOK .u8 W v0 l0 L0∧ArgOK .u8 W v1 l1 L1:=by
 obtain⟨v0,v1,y0,y1,n,rfl,_,rfl,h0,h1⟩:=Joins.open_agg2 Tryz.underlying24 (by kernel_rfl) cells24 hv h
 have hok:∀(i:Nat) (x:Value),(#[v0,v1]:Array Value)[i]?=some x→Cell.okWide Tryz.prog W .any b0 22 x:=by
  simp only[Value.okWide,Tryz.underlying24] at hv
  obtain⟨cs,e,_,ts,hts,_,hc⟩:=hv
  cases e
  have e2:Tryz.prog.cellTypes Tryz.prog.depth 24=some [22,22]:=by kernel_rfl
  rw[e2] at hts
  cases hts
  intro i x hx
  obtain⟨u,hu,hk⟩:=hc i x hx
  have:u=22:=by
   have:i%2<2:=Nat.mod_lt _ (by decide)
   match hm:i%2,this with
   | 0,_=>simp[hm] at hu;exact hu.symm
   | 1,_=>simp[hm] at hu;exact hu.symm
  rw[this] at hk
  exact hk
 obtain⟨l0,L0,w0,a0⟩:=arg_ok Tryz.underlying22 Tryz.underlying5 cells5 h0 (hok 0 v0 rfl) (noneFrozen_of hf fun x hx=>List.mem_append.2 (.inl hx))
 obtain⟨l1,L1,w1,a1⟩:=arg_ok Tryz.underlying22 Tryz.underlying5 cells5 h1 (hok 1 v1 rfl) (noneFrozen_of hf fun x hx=>List.mem_append.2 (.inr hx))
 exact⟨v0,v1,l0,l1,L0,L1,rfl,fun z hz=>u8_bd (w0 z hz),fun z hz=>u8_bd (w1 z hz),a0,a1⟩
abbrev tT:Ty:=.prod (.sl (.int .u8)) (.sl (.int .u8))
end Vm
end Go.Proofs.YtldgdgacdcenkaaGreatDoor
namespace Go.Proofs.YtldgdgacdcenkaaGreatDoor
open Go.ChangeShapes Go.WideShapes Go.ChangeAt Go.RowKit
namespace Vm
open Go Go.Vm Go.Vm.W Go.Vm.X
set_option maxRecDepth 100000
theorem law_T {m:Nat} {f:FuncId} {run:Dens [.d tT]→Option (Dens [.d .bool])} (ho:∀mx,OKs (BB mx) (told mx) prog m [⟨f,[.d tT],[.d .bool],run⟩]) (hrun:∀L0 L1,X.bytes L0→X.bytes L1→run (L0,L1)=some true)
  {W:World} (hsh:W.ShapedOpen Tryz.prog) (hL:laidMetH Tryz.prog Rows.endsFoldRow.laid W) {v0 v1:Value} {l0 l1:Vm.Loc} {L0 L1:List Int} (b0:X.bytes L0) (b1:X.bytes L1) (a0:ArgOK .u8 W v0 l0 L0) (a1:ArgOK .u8 W v1 l1 L1):
  Calls Tryz.prog f #[.agg #[v0,v1]] W fun e W'=>e=.returned (.bool true)∧Below W.heap.size W W':=by
 obtain⟨mx,p1,p2,hR⟩:=start hsh hL [l0,l1]
 have r0:rho1 W 10 [p2,p1,l0,l1] 12=some l0:=rfl
 have r1:rho1 W 10 [p2,p1,l0,l1] 13=some l1:=rfl
 obtain⟨H1,O1,u0,A0,q1,q2,q3,q4,q5,q6,q7,q8⟩:=lay_slice a0 r0 hR (start_lt mx) (start_hk mx) (show nx0≤12 by decide) (by decide) (by simp)
 obtain⟨H2,O2,u1,A1,j1,j2,j3,j4,j5,j6,j7,j8⟩:=lay_slice a1 r1 q1 q2 q3 (show nx0≤13 by decide) (by decide) (fun h=>by
  rcases q4 _ h with h1 | h1
  ·cases h1
  ·simp at h1)
 refine calls_of_TE (t:=⟨f,[.d tT],[.d .bool],run⟩) (told_ok mx) mixed prog_ok (n:=m) (ho mx _ (List.mem_singleton.2 rfl) m (Nat.le_refl _)) rfl (a:=(L0,L1)) (hrun L0 L1 b0 b1) j3 (A:=A0++A1) (fun x hx=>?_) (vs:=[.agg [u0,u1]]) ?_ j1 gl_ok (rho1_free (show 10+4≤RO by decide)) j2 ?_
 ·rcases List.mem_append.1 hx with hx | hx
  ·exact .inl (j6 _ _ (q5 x hx))
  ·exact .inl (j5 x hx)
 ·refine⟨_,rfl,⟨[u0,u1],rfl,rfl,⟨[u0],[u1],rfl,⟨u0,rfl,?_⟩,⟨u1,rfl,?_⟩⟩,rfl⟩⟩
  ·exact SlR_mono (fun x hx=>List.mem_append.2 (.inl hx)) (fun _ _=>RelL_mono (RelC_mono (fun x hx=>List.mem_append.2 (.inl hx)) (.int .u8))) q7
  ·exact SlR_mono (fun x hx=>List.mem_append.2 (.inr hx)) (fun _ _=>RelL_mono (RelC_mono (fun x hx=>List.mem_append.2 (.inr hx)) (.int .u8))) j7
 ·simp only[VRs,VR]
  exact⟨_,_,rfl,⟨_,rfl,_,_,rfl,q8,_,_,rfl,j8,rfl⟩,rfl⟩
end Vm
end Go.Proofs.YtldgdgacdcenkaaGreatDoor
