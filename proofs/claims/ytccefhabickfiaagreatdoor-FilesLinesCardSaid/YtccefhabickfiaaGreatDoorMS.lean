/- What the rows of this chapter need: the start, arguments of plain data, the calls. -/
import Derived.Test.YtccefhabickfiaaGreatDoorQ8
import Derived.Lib.SmallJoins
import Derived.Test.YtccefhabickfiaaGreatDoorTie
import Derived.Test.YtccefhabickfiaaGreatDoorCards
import Derived.Stop.LaidErr
set_option linter.unusedSimpArgs false
set_option linter.unusedVariables false
namespace Go.Proofs.YtccefhabickfiaaGreatDoor
open Go.ChangeShapes Go.WideShapes Go.ChangeAt Go.RowKit Go.Deep
namespace Vm
open Go Go.Vm Go.Vm.W Go.Vm.X
set_option maxRecDepth 100000
theorem own:ownKnob Tryz.prog.godebug=none:=by kernel_rfl
theorem jmy:laidOutB Tryz.prog=true:=by kernel_rfl
theorem jox {H:Type} {enc:TypeId×Value->H} {a:Assume} {C:Checked} {os:Os} {f:FuncId} {fn:Func} {s:ChangeSpec} {conds:List PathCond} {apart fresh handsOn jd0:Bool} {X:World->Array Value->Prop}
  (hX:∀(w w':World) (args:Array Value),w.heap=w'.heap->X w args->X w' args)
  (own:ownKnob C.prog.godebug=none) (started:os.Started) (noInit:C.prog.inits.idxOf? f=none) (hfn:C.prog.funcs[f]?=some fn)
  (witness:∃(w:World) (tape:Tape) (i:Input),w.os=os/\(w.forCall tape i).Shaped C.prog/\i.vars=[]/\Input.okWide C.prog (w.forCall tape i) .any w.heap.size f i/\
    ((s.pre enc C.prog fn conds apart (w.forCall tape i).memory i.args/\X (w.forCall tape i).memory i.args)/\sizedMet enc C.prog fn (OpenSpec.ofChange s) apart (w.forCall tape i).memory i.args)/\a.holds C.prog (lone (Frame.enter C.prog f i.args .normal) [] (w.forCall tape i)))
  (contract:∀(W:World) (base:Nat) (args:Array Value) (ds gs:List (DataW H)) (before:List MemPlace),W.ShapedOpen C.prog->
    (∀(j:Nat) t v,fn.params[j]?=some t->args[j]?=some v->Value.okWide C.prog W .any base t v)->
    DataW.Whole enc C.prog fn.params.toList s.vars apart W args.toList ds gs before->X W args->
    (DataW.weightsEach C.prog (fn.params.toList++s.plain.varTypes C.prog) (ds++gs)).all (·<=reachBytes)=true->
    Calls C.prog f args W λe W'=>∃v,e=.returned v/\s.post enc C.prog fn apart fresh handsOn jd0 W args v W'):
  ReturnsInHanded a C os f .any (λw args=>(s.pre enc C.prog fn conds apart w args/\X w args)/\sizedMet enc C.prog fn (OpenSpec.ofChange s) apart w args) (s.post enc C.prog fn apart fresh handsOn jd0):=by
 refine returnsInHanded_of_calls own started noInit witness ?_;intro w tape i _ hsh _ hok hpre _;obtain⟨_,_,_,fn',hfn',_,_,_,_,hval⟩:=hok;obtain rfl:fn'=fn:=lR (hfn'.symm.trans hfn);obtain⟨⟨⟨ds,gs,before,hw,_⟩,hx⟩,hz⟩:=hpre;have hw':=DataW.Whole.of_heap (w':=w.forCall tape i) (by rfl) hw;refine(contract (w.forCall tape i) w.heap.size i.args ds gs before hsh hval hw' (hX _ _ _ (by rfl) hx) (hz.weights hw)).mono λe W' ⟨v,he,hp⟩=>?_
 subst he;exact ChangeSpec.post_blind hp
theorem kd8 {P:Program} {w:World} {g:Nat} {t:TypeId} {zero:Array Value} {k:IntKind} (h:w.ShapedOpen P) (hg:g<P.globals.size)
  (h0:((begin P (λ_ _=>0) default).world.heap[g]?).bind Obj.row?=some (zero,t)) (hz:zero.size=1)
  (hb:P.buildable t=true) (hc:P.cellTypes P.depth t=some [t]) (hu:P.underlying t=some (.int k)):∃m t',w.heap[g]?=some (.cells #[.int k m] t' (0,0)):=by
 obtain⟨m,hm⟩:=cell_of_shapedOpen_int h hg h0 hz hb hc hu;obtain⟨cs,hh,hs,_⟩:=h.1 g zero t hg h0;refine⟨m,t,?_⟩;rw[hh];obtain⟨cl⟩:=cs
 match cl,hs.trans hz with
 | [v],_=>
   simp only[World.cell?,hh] at hm;have:v=.int k m:=by simpa using hm
   rw[this]
theorem laidMetH.data {P:Program} {l:List (String×DataW Unit)} {w:World} (h:laidMetH P l w):laidMet P (l.filter λx=>x.2.handleName?.isNone) w:=by
 unfold laidMetH at h;generalize hfl:(l.filter λx=>x.2.handleName?.isSome)=fl at h;cases fl with
 | nil=>
   have e:(l.filter λx=>x.2.handleName?.isNone)=l:=by
    rw[List.filter_eq_self];intro x hx;have:=(List.filter_eq_nil_iff.1 hfl) x hx;cases hn:x.2.handleName? with
    | none=>rfl
    | some s=>rw[hn] at this;exact absurd rfl this
   rw[e];exact h
 | cons a ls=>exact h.1
theorem j4n: "*" ++ "errors.errorString" = "*errors.errorString" :=by decide
theorem j5y (u:TypeId) (h:Tryz.prog.typeName? 3 u=some "*errors.errorString"):u=273:=
 typeName_ptr_named (nm:= "errors.errorString") (by rw[j4n];kernel_rfl) (by kernel_rfl) (by decide) u (by rw[j4n];exact h)
theorem khb:∀x∈jmz,x∈Rows.filesBackRow.laid.filter λx=>x.2.handleName?.isNone:=by
 intro x hx;have hs:jmz.all (λy=>y.2.handleName?.isNone)=true:=by kernel_rfl
 have h2:=cJ.1 hs x hx;unfold jmz at hx;obtain⟨y,hy,rfl⟩:=bH.1 hx;exact kN.2 ⟨List.fst_mem_of_mem_zipIdx (kN.1 hy).1,h2⟩
theorem kc1:∀e∈es,e.1<9:=by
 have:(es.all λe=>e.1.blt 9)=true:=by kernel_rfl
 intro e he;simpa using cJ.1 this e he
theorem start {W:World} (hsh:W.ShapedOpen Tryz.prog) (hLH:laidMetH Tryz.prog Rows.filesBackRow.laid W) (ps:List Vm.Loc):∃mx p1 p2,HR (tC W 9 (p2::p1::ps)) (BB mx).H0 W:=by
 have hL:=laidMetH.data hLH;obtain⟨mx,t3,h3⟩:=kd8 (g:=0) (t:=3) (zero:=#[.int .i64 0]) hsh (of_decide_eq_true (by kernel_rfl)) (by kernel_rfl) rfl (by kernel_rfl) (by kernel_rfl) Tryz.underlying3;obtain⟨b1,o1,t1,h1⟩:=j0m hL (nm:= "strconv.ErrSyntax") (name:= "*errors.errorString") (uP (i:=5) rfl) (g:=3) (t:=88) (ty:=273) (e:=275) (by kernel_rfl) (by kernel_rfl) Tryz.underlying88 j5y Tryz.underlying273 (of_decide_eq_true (by kernel_rfl))
 obtain⟨b2,o2,t2,h2⟩:=j0m hL (nm:= "strconv.ErrRange") (name:= "*errors.errorString") (uP (i:=4) rfl) (g:=4) (t:=88) (ty:=273) (e:=275) (by kernel_rfl) (by kernel_rfl) Tryz.underlying88 j5y Tryz.underlying273 (of_decide_eq_true (by kernel_rfl))
 refine⟨mx,⟨b1,o1,0⟩,⟨b2,o2,0⟩,?_⟩;have:=j88 hL khb kc2 (ex:=ex mx) 9 (⟨b2,o2,0⟩::⟨b1,o1,0⟩::ps) kc1 (by
  intro e he;simp only[ex,bK,gS,gQ] at he;rcases he with rfl | rfl | rfl
  ·exact⟨by show 0<9;decide,_,_,h3,_,_,rfl,by simp[VR],rfl⟩
  ·exact⟨by decide,_,_,h2,_,_,rfl,by simp[VR,tC],rfl⟩
  ·exact⟨by decide,_,_,h1,_,_,rfl,by simp[VR,tC],rfl⟩)
 rw[jqw] at this;exact this
theorem jo9 (mx:Int):∀x,((BB mx).H0.get x).isSome->x<RO:=λx hx=>by
 have:=j8u mx x hx;exact mS this (show nx0<=RO by decide)
theorem jo8 (mx:Int):HK (BB mx) RO [] (BB mx).H0 RO:=⟨show nx0<=RO by decide,by decide,λ_ _=>rfl,(λ_ h=>by cases h),qgo⟩
theorem jl9 {W:World} {ps:List Vm.Loc}:GLok gl (tC W 9 ps):=λg hg=>by
 have:∀g∈gl,g<9:=by decide
 obtain⟨l,h1,h2,h3⟩:=j3o (w:=W) (ps:=ps) (this g (List.contains_iff_mem.1 hg));exact⟨l,h1,h2,h3⟩
noncomputable abbrev wit (os:Os):World:=(World.doorLaid Tryz.prog 600 os).layVars Tryz.prog [("unicode/utf8.first",Rows.laid_unicode_utf8_first)]
theorem jqp (os:Os):(wit os).os=os:=World.layVars_os _ _ _
theorem jlt (os:Os) (args:Array Value):laidMetH Tryz.prog Rows.filesBackRow.laid ((wit os).forCall (λ_ _=>0) ⟨#[],args,[]⟩).memory:=
 laidMetH_of_parts3 (fuel:=8) (laidMet_of_run' 8 (by kernel_rfl) (by kernel_rfl)) (by kernel_rfl) (by kernel_rfl)
theorem R9 {z:Int} (h:(Lit.int .u8 z).wf=true):0<=z/\z<=255:=by
 simp[Lit.wf,IntKind.min,IntKind.max,IntKind.signed,IntKind.bits] at h;omega
theorem jng {W:World} {p q:List MemPlace} (h:W.noneFrozen p) (hq:∀x∈q,x∈p):W.noneFrozen q:=λb o hm=>h b o (hq _ hm)
theorem jba:Tryz.prog.cellsOf 5=1:=by kernel_rfl
section
variable {H:Type} {enc:TypeId×Value->H} {W:World}
end
def kkh (i:Nat) (v:Value):Prop:=∃n,v=.int .u8 n/\0<=n/\n<=255
theorem kbz:Tryz.prog.cellsOf 43=3:=by kernel_rfl
section
variable {H:Type} {enc:TypeId×Value->H} {W:World}
theorem kod {n:Nat} {cs:List Value} {y:DataW H×List MemPlace} (hl:cs.length=1) (h:DataW.trod enc Tryz.prog W 0 (λ_=>true) true n 5 cs=some y):∃a,cs=[.int .u8 a]/\0<=a/\a<=255:=by
 match cs,hl with
 | [c0],_=>
   obtain⟨a,ea,_,wa⟩:=wG Tryz.underlying5 h;cases ea;exact⟨a,rfl,R9 wa⟩
theorem juc {b0:Nat} {v:Value} {d:DataW H} {p:List MemPlace} (hv:Value.okWide Tryz.prog W .any b0 43 v) (h:DataW.Trod enc Tryz.prog W 0 (λ_=>true) true 43 v d p) (hf:W.noneFrozen p):
  ∃(v0:Value) (a b:Int) (l:Vm.Loc) (L:List Int) (M:List AV),v=.agg #[.int .u8 a,.int .u8 b,v0]/\(0<=a/\a<=255)/\(0<=b/\b<=255)/\(∀k∈L,0<=k)/\(∀A,dP (cB A (.int .u8)) L M)/\jdq 1 W v0 l L.length M:=by
 obtain⟨c0,c1,c2,y0,y1,y2,n,rfl,_,rfl,h0,h1,h2⟩:=Joins.open_agg3 Tryz.underlying43 (by kernel_rfl) kbz hv h;have hok:Cell.okWide Tryz.prog W .any b0 41 c2:=by
  simp only[Value.okWide,Tryz.underlying43] at hv;obtain⟨cs,e,_,ts,hts,_,hc⟩:=hv;cases e;have e2:Tryz.prog.cellTypes Tryz.prog.depth 43=some [5,5,41]:=by kernel_rfl
  rw[e2] at hts;cases hts;obtain⟨u,hu,hk⟩:=hc 2 c2 rfl;have:u=41:=by simp at hu;exact hu.symm
  rw[this] at hk;exact hk
 obtain⟨a,ea,_,wa⟩:=wG Tryz.underlying5 h0;obtain⟨b,eb,_,wb⟩:=wG Tryz.underlying5 h1;cases ea;cases eb;obtain⟨l,g,m,w0,a0⟩:=km3 (OKc:=kkh) (by decide) (λi v ⟨n,e,_⟩=>by rw[e];trivial) Tryz.underlying41 jba (λn cs y hl h i hi=>by
  obtain⟨a,rfl,h1⟩:=kod hl h;obtain rfl:i=0:=by omega
  exact⟨_,rfl,_,rfl,h1⟩) h2 hok (jng hf λx hx=>by simp[hx])
 have len:((List.range m).map λi=>N6 (g (i*1))).length=m:=by simp
 refine⟨c2,a,b,l,(List.range m).map λi=>N6 (g (i*1)),_,rfl,R9 wa,R9 wb,λk hk=>?_,λA=>j3r m λi hi=>?_,by rw[len];exact a0⟩
 ·obtain⟨i,hi,rfl⟩:=bH.1 hk;obtain⟨n,e,h1,_⟩:=w0 (i*1) (by have:=fN.1 hi;omega);rw[e];exact h1
 ·obtain⟨n,e,_⟩:=w0 (i*1) (by omega);have e2:((List.range 1).map λj=>dV (g (i*1+j)))=[dV (g (i*1))]:=rfl;rw[e2,e];rfl
end
abbrev Q9:Ty:=.prod (.int .u8) (.prod (.int .u8) (.sl (.int .u8)))
theorem jkb {z:Int} (h:(Lit.int .u16 z).wf=true):0<=z/\z<=65535:=by
 simp[Lit.wf,IntKind.min,IntKind.max,IntKind.signed,IntKind.bits] at h;omega
section
variable {H:Type} {enc:TypeId×Value->H} {W:World}
end
end Vm
end Go.Proofs.YtccefhabickfiaaGreatDoor
