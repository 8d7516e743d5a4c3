/-
  What the rows of this chapter need: the start, arguments of plain data, the calls.
-/
import Derived.Test.YtonohffniohehaaGreatDoorQ8
import Derived.Lib.SmallJoins
import Derived.Test.YtonohffniohehaaGreatDoorTie
import Derived.Test.YtonohffniohehaaGreatDoorCards
import Derived.Stop.LaidErr
set_option linter.unusedSimpArgs false
set_option linter.unusedVariables false
set_option linter.unusedSectionVars false
set_option linter.unnecessarySimpa false
namespace Go.Proofs.YtonohffniohehaaGreatDoor
open Go.ChangeShapes Go.WideShapes Go.ChangeAt Go.RowKit Go.Deep
namespace Vm
open Go Go.Vm Go.Vm.W Go.Vm.X
set_option maxRecDepth 100000
theorem own:ownKnob Tryz.prog.godebug=none:=by kernel_rfl
theorem laidOut:laidOutB Tryz.prog=true:=by kernel_rfl
theorem rows_sized {H:Type} {enc:TypeId×Value→H} {a:Assume} {C:Checked} {os:Os} {f:FuncId} {fn:Func} {s:ChangeSpec} {conds:List PathCond} {apart fresh handsOn again:Bool} {X:World→Array Value→Prop}
  (hX:∀(w w':World) (args:Array Value),w.heap=w'.heap→X w args→X w' args)
  (own:ownKnob C.prog.godebug=none) (started:os.Started) (noInit:C.prog.inits.idxOf? f=none) (hfn:C.prog.funcs[f]?=some fn)
  (witness:∃(w:World) (tape:Tape) (i:Input),w.os=os∧(w.forCall tape i).Shaped C.prog∧i.vars=[]∧Input.okWide C.prog (w.forCall tape i) .any w.heap.size f i∧
    ((s.pre enc C.prog fn conds apart (w.forCall tape i).memory i.args∧X (w.forCall tape i).memory i.args)∧sizedMet enc C.prog fn (OpenSpec.ofChange s) apart (w.forCall tape i).memory i.args)∧a.holds C.prog (lone (Frame.enter C.prog f i.args .normal) [] (w.forCall tape i)))
  (contract:∀(W:World) (base:Nat) (args:Array Value) (ds gs:List (DataW H)) (before:List MemPlace),W.ShapedOpen C.prog→
    (∀(j:Nat) t v,fn.params[j]?=some t→args[j]?=some v→Value.okWide C.prog W .any base t v)→
    DataW.Whole enc C.prog fn.params.toList s.vars apart W args.toList ds gs before→X W args→
    (DataW.weightsEach C.prog (fn.params.toList++s.plain.varTypes C.prog) (ds++gs)).all (·≤reachBytes)=true→
    Calls C.prog f args W fun e W'=>∃v,e=.returned v∧s.post enc C.prog fn apart fresh handsOn again W args v W'):
  ReturnsInHanded a C os f .any (fun w args=>(s.pre enc C.prog fn conds apart w args∧X w args)∧sizedMet enc C.prog fn (OpenSpec.ofChange s) apart w args) (s.post enc C.prog fn apart fresh handsOn again):=by
 refine returnsInHanded_of_calls own started noInit witness ?_
 intro w tape i _ hsh _ hok hpre _
 obtain⟨_,_,_,fn',hfn',_,_,_,_,hval⟩:=hok
 obtain rfl:fn'=fn:=Option.some.inj (hfn'.symm.trans hfn)
 obtain⟨⟨⟨ds,gs,before,hw,_⟩,hx⟩,hz⟩:=hpre
 have hw':=DataW.Whole.of_heap (w':=w.forCall tape i) (by rfl) hw
 refine(contract (w.forCall tape i) w.heap.size i.args ds gs before hsh hval hw' (hX _ _ _ (by rfl) hx) (hz.weights hw)).mono fun e W' ⟨v,he,hp⟩=>?_
 subst he
 exact ChangeSpec.post_blind hp
theorem int_block {P:Program} {w:World} {g:Nat} {t:TypeId} {zero:Array Value} {k:IntKind} (h:w.ShapedOpen P) (hg:g<P.globals.size)
  (h0:((begin P (fun _ _=>0) default).world.heap[g]?).bind Obj.row?=some (zero,t)) (hz:zero.size=1)
  (hb:P.buildable t=true) (hc:P.cellTypes P.depth t=some [t]) (hu:P.underlying t=some (.int k)):∃m t',w.heap[g]?=some (.cells #[.int k m] t' (0,0)):=by
 obtain⟨m,hm⟩:=cell_of_shapedOpen_int h hg h0 hz hb hc hu
 obtain⟨cs,hh,hs,_⟩:=h.1 g zero t hg h0
 refine⟨m,t,?_⟩
 rw[hh]
 obtain⟨cl⟩:=cs
 match cl,hs.trans hz with
 | [v],_=>
   simp only[World.cell?,hh] at hm
   have:v=.int k m:=by simpa using hm
   rw[this]
theorem laidMetH.data {P:Program} {l:List (String×DataW Unit)} {w:World} (h:laidMetH P l w):laidMet P (l.filter fun x=>x.2.handleName?.isNone) w:=by
 unfold laidMetH at h
 generalize hfl:(l.filter fun x=>x.2.handleName?.isSome)=fl at h
 cases fl with
 | nil=>
   have e:(l.filter fun x=>x.2.handleName?.isNone)=l:=by
    rw[List.filter_eq_self]
    intro x hx
    have:=(List.filter_eq_nil_iff.1 hfl) x hx
    cases hn:x.2.handleName? with
    | none=>rfl
    | some s=>rw[hn] at this;exact absurd rfl this
   rw[e];exact h
 | cons a ls=>exact h.1
theorem star: "*" ++ "errors.errorString" = "*errors.errorString" :=by decide
theorem tn_at (u:TypeId) (h:Tryz.prog.typeName? 3 u=some "*errors.errorString"):u=250:=
 typeName_ptr_named (nm:= "errors.errorString") (by rw[star];kernel_rfl) (by kernel_rfl) (by decide) u (by rw[star];exact h)
theorem laidS_in:∀x∈laidS,x∈Rows.segmentsPatternRow.laid.filter fun x=>x.2.handleName?.isNone:=by
 intro x hx
 have hs:laidS.all (fun y=>y.2.handleName?.isNone)=true:=by kernel_rfl
 have h2:=List.all_eq_true.1 hs x hx
 unfold laidS at hx
 obtain⟨y,hy,rfl⟩:=List.mem_map.1 hx
 exact List.mem_filter.2 ⟨List.fst_mem_of_mem_zipIdx (List.mem_filter.1 hy).1,h2⟩
theorem es_lt:∀e∈es,e.1<10:=by
 have:(es.all fun e=>e.1.blt 10)=true:=by kernel_rfl
 intro e he
 simpa using List.all_eq_true.1 this e he
theorem start {W:World} (hsh:W.ShapedOpen Tryz.prog) (hLH:laidMetH Tryz.prog Rows.segmentsPatternRow.laid W) (ps:List Vm.Loc):∃mx p1 p2,HR (rho1 W 10 (p2::p1::ps)) (BB mx).H0 W:=by
 have hL:=laidMetH.data hLH
 obtain⟨mx,t3,h3⟩:=int_block (g:=1) (t:=3) (zero:=#[.int .i64 0]) hsh (of_decide_eq_true (by kernel_rfl)) (by kernel_rfl) rfl (by kernel_rfl) (by kernel_rfl) Tryz.underlying3
 obtain⟨b1,o1,t1,h1⟩:=ifc_holds hL (nm:= "strconv.ErrSyntax") (name:= "*errors.errorString") (List.mem_of_getElem? (i:=5) rfl) (g:=3) (t:=116) (ty:=250) (e:=252) (by kernel_rfl) (by kernel_rfl) Tryz.underlying116 tn_at Tryz.underlying250 (of_decide_eq_true (by kernel_rfl))
 obtain⟨b2,o2,t2,h2⟩:=ifc_holds hL (nm:= "strconv.ErrRange") (name:= "*errors.errorString") (List.mem_of_getElem? (i:=4) rfl) (g:=4) (t:=116) (ty:=250) (e:=252) (by kernel_rfl) (by kernel_rfl) Tryz.underlying116 tn_at Tryz.underlying250 (of_decide_eq_true (by kernel_rfl))
 refine⟨mx,⟨b1,o1,0⟩,⟨b2,o2,0⟩,?_⟩
 have:=HR_more hL laidS_in es_ok (ex:=ex mx) 10 (⟨b2,o2,0⟩::⟨b1,o1,0⟩::ps) es_lt (by
  intro e he
  simp only[ex,List.mem_cons,List.not_mem_nil,or_false] at he
  rcases he with rfl | rfl | rfl
  ·exact⟨by show 1<10;decide,_,_,h3,_,_,rfl,by simp[VR],rfl⟩
  ·exact⟨by decide,_,_,h2,_,_,rfl,by simp[VR,rho1],rfl⟩
  ·exact⟨by decide,_,_,h1,_,_,rfl,by simp[VR,rho1],rfl⟩)
 rw[H0_eq] at this
 exact this
theorem start_lt (mx:Int):∀x,((BB mx).H0.get x).isSome→x<RO:=fun x hx=>by
 have:=BB_wf mx x hx
 exact Nat.lt_of_lt_of_le this (show nx0≤RO by decide)
theorem start_hk (mx:Int):HK (BB mx) RO [] (BB mx).H0 RO:=⟨show nx0≤RO by decide,by decide,fun _ _=>rfl,(fun _ h=>by cases h),List.nodup_nil⟩
theorem gl_ok {W:World} {ps:List Vm.Loc}:GLok gl (rho1 W 10 ps):=fun g hg=>by
 have:∀g∈gl,g<10:=by decide
 obtain⟨l,h1,h2,h3⟩:=rho1_at (w:=W) (ps:=ps) (this g (List.contains_iff_mem.1 hg))
 exact⟨l,h1,h2,h3⟩
noncomputable abbrev wit (os:Os):World:=(World.doorLaid Tryz.prog 600 os).layVars Tryz.prog [("unicode/utf8.first",Rows.laid_unicode_utf8_first)]
theorem wit_os (os:Os):(wit os).os=os:=World.layVars_os _ _ _
theorem door_met (os:Os) (args:Array Value):laidMetH Tryz.prog Rows.segmentsPatternRow.laid ((wit os).forCall (fun _ _=>0) ⟨#[],args,[]⟩).memory:=
 laidMetH_of_parts3 (fuel:=8) (laidMet_of_run' 8 (by kernel_rfl) (by kernel_rfl)) (by kernel_rfl) (by kernel_rfl)
theorem u8_bd {z:Int} (h:(Lit.int .u8 z).wf=true):0≤z∧z≤255:=by
 simp[Lit.wf,IntKind.min,IntKind.max,IntKind.signed,IntKind.bits] at h
 omega
theorem noneFrozen_of {W:World} {p q:List MemPlace} (h:W.noneFrozen p) (hq:∀x∈q,x∈p):W.noneFrozen q:=fun b o hm=>h b o (hq _ hm)
abbrev tW:Ty:=.prod (.int .u8) (.int .u8)
theorem cells23:Tryz.prog.cellsOf 23=2:=by kernel_rfl
theorem cells5:Tryz.prog.cellsOf 5=1:=by kernel_rfl
section
variable {H:Type} {enc:TypeId×Value→H} {W:World}
theorem open_W {b0:Nat} {v:Value} {d:DataW H} {p:List MemPlace} (hv:Value.okWide Tryz.prog W .any b0 23 v) (h:DataW.Trod enc Tryz.prog W 0 (fun _=>true) true 23 v d p):
  ∃a b:Int,v=.agg #[.int .u8 a,.int .u8 b]∧(0≤a∧a≤255)∧(0≤b∧b≤255):=by
 obtain⟨cs,rfl,hsz⟩:=okWide_struct Tryz.underlying23 hv
 obtain⟨fu,hfu⟩:=h
 obtain⟨y0,y1,m,_,_,h0,h1⟩:=trod_struct2 Tryz.underlying23 hfu
 rw[cells23] at hsz
 obtain⟨l⟩:=cs
 match l,hsz with
 | [c0,c1],_=>
   have h0:DataW.trod enc Tryz.prog W 0 (fun _=>true) true m 5 [c0]=some y0:=by simpa[Value.cells,cells5] using h0
   have h1:DataW.trod enc Tryz.prog W 0 (fun _=>true) true m 5 [c1]=some y1:=by simpa[Value.cells,cells5] using h1
   obtain⟨a,ea,_,wa⟩:=DataW.trod_int Tryz.underlying5 h0
   obtain⟨b,eb,_,wb⟩:=DataW.trod_int Tryz.underlying5 h1
   cases ea
   cases eb
   exact⟨a,b,rfl,u8_bd wa,u8_bd wb⟩
end
def okGG (i:Nat) (v:Value):Prop:=((i=0∨i=1∨i=3∨i=4)∧∃n,v=.int .u8 n)∨(i=2∧∃n,v=.int .i8 n)
abbrev tGG:Ty:=.prod (.int .u8) (.prod (.int .u8) (.prod (.int .i8) (.prod (.int .u8) (.int .u8))))
abbrev GT:=Int×(Int×(Int×(Int×Int)))
theorem cells62:Tryz.prog.cellsOf 62=5:=by kernel_rfl
theorem cells60:Tryz.prog.cellsOf 60=1:=by kernel_rfl
theorem trod_struct5 {P:Program} {H:Type} {enc:TypeId×Value→H} {w:World} {base:Nat} {spare:Nat→Bool} {held:Bool} {t:TypeId} {f0 f1 f2 f3 f4:Field} {fuel:Nat} {cs:List Value} {x:DataW H×List MemPlace} (ht:P.underlying t=some (.struct #[f0,f1,f2,f3,f4])) (h:DataW.trod enc P w base spare held fuel t cs=some x):
  ∃y0 y1 y2 y3 y4 n,cs.length=P.cellsOf t∧DataW.trod enc P w base spare held n f0.type ((cs.drop f0.offset).take (P.cellsOf f0.type))=some y0∧
   DataW.trod enc P w base spare held n f1.type ((cs.drop f1.offset).take (P.cellsOf f1.type))=some y1∧DataW.trod enc P w base spare held n f2.type ((cs.drop f2.offset).take (P.cellsOf f2.type))=some y2∧
   DataW.trod enc P w base spare held n f3.type ((cs.drop f3.offset).take (P.cellsOf f3.type))=some y3∧DataW.trod enc P w base spare held n f4.type ((cs.drop f4.offset).take (P.cellsOf f4.type))=some y4:=by
 obtain⟨xs,n,_,rfl,hl,hlen,hf⟩:=DataW.trod_struct ht h
 match xs,hlen with
 | [y0,y1,y2,y3,y4],_=>exact⟨y0,y1,y2,y3,y4,n,hl,by simpa using hf 0 f0 rfl,by simpa using hf 1 f1 rfl,by simpa using hf 2 f2 rfl,by simpa using hf 3 f3 rfl,by simpa using hf 4 f4 rfl⟩
section
variable {H:Type} {enc:TypeId×Value→H} {W:World}
theorem gg_cells {n:Nat} {cs:List Value} {y:DataW H×List MemPlace} (hl:cs.length=5) (h:DataW.trod enc Tryz.prog W 0 (fun _=>true) true n 62 cs=some y):∃a b c d e,cs=[.int .u8 a,.int .u8 b,.int .i8 c,.int .u8 d,.int .u8 e]:=by
 match cs,hl with
 | [c0,c1,c2,c3,c4],_=>
   obtain⟨y0,y1,y2,y3,y4,m,_,h0,h1,h2,h3,h4⟩:=trod_struct5 Tryz.underlying62 h
   have h0:DataW.trod enc Tryz.prog W 0 (fun _=>true) true m 5 [c0]=some y0:=by simpa[cells5] using h0
   have h1:DataW.trod enc Tryz.prog W 0 (fun _=>true) true m 5 [c1]=some y1:=by simpa[cells5] using h1
   have h2:DataW.trod enc Tryz.prog W 0 (fun _=>true) true m 60 [c2]=some y2:=by simpa[cells60] using h2
   have h3:DataW.trod enc Tryz.prog W 0 (fun _=>true) true m 5 [c3]=some y3:=by simpa[cells5] using h3
   have h4:DataW.trod enc Tryz.prog W 0 (fun _=>true) true m 5 [c4]=some y4:=by simpa[cells5] using h4
   obtain⟨a0,e0,_,_⟩:=DataW.trod_int Tryz.underlying5 h0
   obtain⟨a1,e1,_,_⟩:=DataW.trod_int Tryz.underlying5 h1
   obtain⟨a2,e2,_,_⟩:=DataW.trod_int Tryz.underlying60 h2
   obtain⟨a3,e3,_,_⟩:=DataW.trod_int Tryz.underlying5 h3
   obtain⟨a4,e4,_,_⟩:=DataW.trod_int Tryz.underlying5 h4
   cases e0;cases e1;cases e2;cases e3;cases e4
   exact⟨a0,a1,a2,a3,a4,rfl⟩
theorem open_Gs {b0:Nat} {v:Value} {d:DataW H} {p:List MemPlace} (hv:Value.okWide Tryz.prog W .any b0 59 v) (h:DataW.Trod enc Tryz.prog W 0 (fun _=>true) true 59 v d p) (hf:W.noneFrozen p):
  ∃(l:Vm.Loc) (L:List GT) (M:List AV),(∀A,RelL (RelC A tGG) L M)∧ArgK 5 W v l L.length M:=by
 simp only[Value.okWide,Tryz.underlying59] at hv
 obtain⟨fu,hfu⟩:=h
 have hcell:v.cells.toList=[v]:=by
  rcases hv':v with _ | _<;>first | rfl | (subst hv';simp[Cell.okWide,Cell.ok,Tryz.underlying59] at hv)
 rw[hcell] at hfu
 obtain⟨l,g,m,w0,a0⟩:=slice_argK (OKc:=okGG) (by decide) (fun i v h=>by rcases h with⟨_,n,e⟩ | ⟨_,n,e⟩<;>(rw[e];trivial)) Tryz.underlying59 cells62 (fun n cs y hl h i hi=>by
  obtain⟨a,b,c,d,e,rfl⟩:=gg_cells hl h
  rcases(by omega:i=0∨i=1∨i=2∨i=3∨i=4) with rfl | rfl | rfl | rfl | rfl
  ·exact⟨_,rfl,.inl ⟨by decide,_,rfl⟩⟩
  ·exact⟨_,rfl,.inl ⟨by decide,_,rfl⟩⟩
  ·exact⟨_,rfl,.inr ⟨rfl,_,rfl⟩⟩
  ·exact⟨_,rfl,.inl ⟨by decide,_,rfl⟩⟩
  ·exact⟨_,rfl,.inl ⟨by decide,_,rfl⟩⟩) hfu hv hf
 have len:((List.range m).map fun i=>((intV (g (i*5)),(intV (g (i*5+1)),(intV (g (i*5+2)),(intV (g (i*5+3)),intV (g (i*5+4)))))):GT)).length=m:=by simp
 refine⟨l,(List.range m).map fun i=>(intV (g (i*5)),(intV (g (i*5+1)),(intV (g (i*5+2)),(intV (g (i*5+3)),intV (g (i*5+4)))))),_,fun A=>rowsK_rel m fun i hi=>?_,by rw[len];exact a0⟩
 have md:∀j,j<5→(i*5+j)%5=j:=fun j hj=>by omega
 have k0:=w0 (i*5) (by omega)
 have k1:=w0 (i*5+1) (by omega)
 have k2:=w0 (i*5+2) (by omega)
 have k3:=w0 (i*5+3) (by omega)
 have k4:=w0 (i*5+4) (by omega)
 unfold okGG at k0 k1 k2 k3 k4
 rw[show(i*5)%5=0 by omega] at k0
 rw[md 1 (by decide)] at k1
 rw[md 2 (by decide)] at k2
 rw[md 3 (by decide)] at k3
 rw[md 4 (by decide)] at k4
 obtain⟨a,ea⟩:∃n,g (i*5)=.int .u8 n:=by simpa using k0
 obtain⟨b,eb⟩:∃n,g (i*5+1)=.int .u8 n:=by simpa using k1
 obtain⟨c,ec⟩:∃n,g (i*5+2)=.int .i8 n:=by simpa using k2
 obtain⟨d,ed⟩:∃n,g (i*5+3)=.int .u8 n:=by simpa using k3
 obtain⟨e,ee⟩:∃n,g (i*5+4)=.int .u8 n:=by simpa using k4
 have er:((List.range 5).map fun j=>dV (g (i*5+j)))=[dV (g (i*5)),dV (g (i*5+1)),dV (g (i*5+2)),dV (g (i*5+3)),dV (g (i*5+4))]:=rfl
 rw[er,ea,eb,ec,ed,ee]
 exact⟨[_],[_,_,_,_],rfl,rfl,[_],[_,_,_],rfl,rfl,[_],[_,_],rfl,rfl,[_],[_],rfl,rfl,rfl⟩
end
theorem law_P {m:Nat} {f:FuncId} {run:Dens [.d tW,.d (.sl tGG)]→Option (Dens [.d .bool])} (ho:∀mx,OKs (BB mx) (told mx) prog m [⟨f,[.d tW,.d (.sl tGG)],[.d .bool],run⟩]) {W:World} (hsh:W.ShapedOpen Tryz.prog) (hL:laidMetH Tryz.prog Rows.segmentsPatternRow.laid W) {v0:Value} {l0:Vm.Loc} {L:List GT} {M:List AV} {a b:Int}
  (hrun:run ((a,b),L)=some true) (h0:∀A,RelL (RelC A tGG) L M) (k0:ArgK 5 W v0 l0 L.length M):
  Calls Tryz.prog f #[.agg #[.int .u8 a,.int .u8 b],v0] W fun e W'=>e=.returned (.bool true)∧Below W.heap.size W W':=by
 obtain⟨mx,p1,p2,hR⟩:=start hsh hL [l0]
 have r0:rho1 W 10 [p2,p1,l0] 12=some l0:=rfl
 obtain⟨HA,O0,u0,A0,q1,q2,q3,q4,q5,q6,q7,q8⟩:=lay_sliceK (by decide) h0 rfl k0 r0 hR (start_lt mx) (start_hk mx) (show nx0≤12 by decide) (by decide) (by simp)
 refine calls_of_TE (t:=⟨f,[.d tW,.d (.sl tGG)],[.d .bool],run⟩) (told_ok mx) mixed prog_ok (n:=m) (ho mx _ (List.mem_singleton.2 rfl) m (Nat.le_refl _)) rfl (a:=((a,b),L)) hrun q3 (A:=A0) (fun x hx=>.inl (q5 x hx)) (vs:=[.agg [.int .u8 a,.int .u8 b],u0]) ?_ q1 gl_ok (rho1_free (show 10+3≤RO by decide)) q2 ?_
 ·exact⟨_,_,[],[],rfl,rfl,⟨_,rfl,rfl,⟨_,_,rfl,rfl,rfl⟩,rfl⟩,_,rfl,⟨rfl,⟨_,rfl,q7⟩,rfl⟩⟩
 ·simp only[VRs,VR]
  exact⟨_,_,rfl,⟨_,rfl,_,_,rfl,rfl,_,_,rfl,rfl,rfl⟩,_,_,rfl,q8,rfl⟩
end Vm
end Go.Proofs.YtonohffniohehaaGreatDoor
