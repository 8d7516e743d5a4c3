/- Parts of the proof. -/
import Derived.Test.YtccefhabickfiaaGreatDoorQ8
import Derived.Lib.SmallJoins
import Derived.Test.YtccefhabickfiaaGreatDoorTie
import Derived.Test.YtccefhabickfiaaGreatDoorCards
import Derived.Stop.LaidErr
set_option linter.unusedSimpArgs false
set_option linter.unusedVariables false
namespace Go.Proofs.YtccefhabickfiaaGreatDoor
open Go.ChangeShapes Go.WideShapes Go.ChangeAt Go.RowKit Go.Deep
namespace Vm
open Go Go.Vm Go.Vm.W Go.Vm.X
set_option maxRecDepth 100000
theorem own:ownKnob Tryz.prog.godebug=none:=by kernel_rfl
theorem jz7:laidOutB Tryz.prog=true:=by kernel_rfl
theorem j64 {H:Type} {enc:TypeId×Value->H} {a:Assume} {C:Checked} {os:Os} {f:FuncId} {fn:Func} {s:ChangeSpec} {conds:List PathCond} {apart fresh handsOn Db:Bool} {X:World->Array Value->Prop}
  (hX:∀(w w':World) (args:Array Value),w.heap=w'.heap->X w args->X w' args)
  (own:ownKnob C.prog.godebug=none) (started:os.Started) (noInit:C.prog.inits.idxOf? f=none) (hfn:C.prog.funcs[f]?=some fn)
  (witness:∃(w:World) (tape:Tape) (i:Input),w.os=os/\(w.forCall tape i).Shaped C.prog/\i.vars=[]/\Input.okWide C.prog (w.forCall tape i) .any w.heap.size f i/\
    ((s.pre enc C.prog fn conds apart (w.forCall tape i).memory i.args/\X (w.forCall tape i).memory i.args)/\sizedMet enc C.prog fn (OpenSpec.ofChange s) apart (w.forCall tape i).memory i.args)/\a.holds C.prog (lone (Frame.enter C.prog f i.args .normal) [] (w.forCall tape i)))
  (contract:∀(W:World) (base:Nat) (args:Array Value) (ds gs:List (DataW H)) (before:List MemPlace),W.ShapedOpen C.prog->
    (∀(j:Nat) t v,fn.params[j]?=some t->args[j]?=some v->Value.okWide C.prog W .any base t v)->
    DataW.Whole enc C.prog fn.params.toList s.vars apart W args.toList ds gs before->X W args->
    (DataW.weightsEach C.prog (fn.params.toList++s.plain.varTypes C.prog) (ds++gs)).all (·<=reachBytes)=true->
    Calls C.prog f args W λe W'=>∃v,e=.returned v/\s.post enc C.prog fn apart fresh handsOn Db W args v W'):
  ReturnsInHanded a C os f .any (λw args=>(s.pre enc C.prog fn conds apart w args/\X w args)/\sizedMet enc C.prog fn (OpenSpec.ofChange s) apart w args) (s.post enc C.prog fn apart fresh handsOn Db):=by
 refine returnsInHanded_of_calls own started noInit witness ?_;intro w tape i _ hsh _ hok hpre _;obtain⟨_,_,_,fn',hfn',_,_,_,_,hval⟩:=hok;obtain rfl:fn'=fn:=kF (hfn'.symm.trans hfn);obtain⟨⟨⟨ds,gs,before,hw,_⟩,hx⟩,hz⟩:=hpre;have hw':=DataW.Whole.of_heap (w':=w.forCall tape i) (by rfl) hw;refine(contract (w.forCall tape i) w.heap.size i.args ds gs before hsh hval hw' (hX _ _ _ (by rfl) hx) (hz.weights hw)).mono λe W' ⟨v,he,hp⟩=>?_
 subst he;exact ChangeSpec.post_blind hp
theorem jzo {P:Program} {w:World} {g:Nat} {t:TypeId} {zero:Array Value} {k:IntKind} (h:w.ShapedOpen P) (hg:g<P.globals.size)
  (h0:((begin P (λ_ _=>0) default).world.heap[g]?).bind Obj.row?=some (zero,t)) (hz:zero.size=1)
  (hb:P.buildable t=true) (hc:P.cellTypes P.depth t=some [t]) (hu:P.underlying t=some (.int k)):∃m t',w.heap[g]?=some (.cells #[.int k m] t' (0,0)):=by
 obtain⟨m,hm⟩:=cell_of_shapedOpen_int h hg h0 hz hb hc hu;obtain⟨cs,hh,hs,_⟩:=h.1 g zero t hg h0;refine⟨m,t,?_⟩;rw[hh];obtain⟨cl⟩:=cs
 match cl,hs.trans hz with
 | [v],_=>
   simp only[World.cell?,hh] at hm;have:v=.int k m:=by simpa using hm
   rw[this]
theorem laidMetH.data {P:Program} {l:List (String×DataW Unit)} {w:World} (h:laidMetH P l w):laidMet P (l.filter λx=>x.2.handleName?.isNone) w:=by
 unfold laidMetH at h;generalize hfl:(l.filter λx=>x.2.handleName?.isSome)=fl at h;cases fl with
 | nil=>
   have e:(l.filter λx=>x.2.handleName?.isNone)=l:=by
    rw[List.filter_eq_self];intro x hx;have:=(List.filter_eq_nil_iff.1 hfl) x hx;cases hn:x.2.handleName? with
    | none=>rfl
    | some s=>rw[hn] at this;exact absurd rfl this
   rw[e];exact h
 | cons a ls=>exact h.1
theorem jp7: "*" ++ "errors.errorString" = "*errors.errorString" :=by decide
theorem jq1 (u:TypeId) (h:Tryz.prog.typeName? 3 u=some "*errors.errorString"):u=273:=
 typeName_ptr_named (nm:= "errors.errorString") (by rw[jp7];kernel_rfl) (by kernel_rfl) (by decide) u (by rw[jp7];exact h)
theorem jz8:∀x∈Rm,x∈Rows.filesBackRow.laid.filter λx=>x.2.handleName?.isNone:=by
 intro x hx;have hs:Rm.all (λy=>y.2.handleName?.isNone)=true:=by kernel_rfl
 have h2:=bS.1 hs x hx;unfold Rm at hx;obtain⟨y,hy,rfl⟩:=bU.1 hx;exact oN.2 ⟨List.fst_mem_of_mem_zipIdx (oN.1 hy).1,h2⟩
theorem jyl:∀e∈es,e.1<9:=by
 have:(es.all λe=>e.1.blt 9)=true:=by kernel_rfl
 intro e he;simpa using bS.1 this e he
theorem start {W:World} (hsh:W.ShapedOpen Tryz.prog) (hLH:laidMetH Tryz.prog Rows.filesBackRow.laid W) (ps:List Vm.Loc):∃mx p1 p2,HR (oR W 9 (p2::p1::ps)) (BB mx).H0 W:=by
 have hL:=laidMetH.data hLH;obtain⟨mx,t3,h3⟩:=jzo (g:=0) (t:=3) (zero:=#[.int .i64 0]) hsh (of_decide_eq_true (by kernel_rfl)) (by kernel_rfl) rfl (by kernel_rfl) (by kernel_rfl) Tryz.underlying3;obtain⟨b1,o1,t1,h1⟩:=jkp hL (nm:= "strconv.ErrSyntax") (name:= "*errors.errorString") (rC (i:=5) rfl) (g:=3) (t:=88) (ty:=273) (e:=275) (by kernel_rfl) (by kernel_rfl) Tryz.underlying88 jq1 Tryz.underlying273 (of_decide_eq_true (by kernel_rfl))
 obtain⟨b2,o2,t2,h2⟩:=jkp hL (nm:= "strconv.ErrRange") (name:= "*errors.errorString") (rC (i:=4) rfl) (g:=4) (t:=88) (ty:=273) (e:=275) (by kernel_rfl) (by kernel_rfl) Tryz.underlying88 jq1 Tryz.underlying273 (of_decide_eq_true (by kernel_rfl))
 refine⟨mx,⟨b1,o1,0⟩,⟨b2,o2,0⟩,?_⟩;have:=juh hL jz8 jym (ex:=ex mx) 9 (⟨b2,o2,0⟩::⟨b1,o1,0⟩::ps) jyl (by
  intro e he;simp only[ex,bL,gW,gU] at he;rcases he with rfl | rfl | rfl
  ·exact⟨by show 0<9;decide,_,_,h3,_,_,rfl,by simp[VR],rfl⟩
  ·exact⟨by decide,_,_,h2,_,_,rfl,by simp[VR,oR],rfl⟩
  ·exact⟨by decide,_,_,h1,_,_,rfl,by simp[VR,oR],rfl⟩)
 rw[Xc] at this;exact this
theorem j72 (mx:Int):∀x,((BB mx).H0.get x).isSome->x<RO:=λx hx=>by
 have:=jt4 mx x hx;exact kB this (show nx0<=RO by decide)
theorem j71 (mx:Int):HK (BB mx) RO [] (BB mx).H0 RO:=⟨show nx0<=RO by decide,by decide,λ_ _=>rfl,(λ_ h=>by cases h),qg5⟩
theorem jy8 {W:World} {ps:List Vm.Loc}:GLok gl (oR W 9 ps):=λg hg=>by
 have:∀g∈gl,g<9:=by decide
 obtain⟨l,h1,h2,h3⟩:=jo0 (w:=W) (ps:=ps) (this g (List.contains_iff_mem.1 hg));exact⟨l,h1,h2,h3⟩
noncomputable abbrev wit (os:Os):World:=(World.doorLaid Tryz.prog 600 os).layVars Tryz.prog [("unicode/utf8.first",Rows.laid_unicode_utf8_first)]
theorem kam (os:Os):(wit os).os=os:=World.layVars_os _ _ _
theorem jx2 (os:Os) (args:Array Value):laidMetH Tryz.prog Rows.filesBackRow.laid ((wit os).forCall (λ_ _=>0) ⟨#[],args,[]⟩).memory:=
 laidMetH_of_parts3 (fuel:=8) (laidMet_of_run' 8 (by kernel_rfl) (by kernel_rfl)) (by kernel_rfl) (by kernel_rfl)
theorem je1 {z:Int} (h:(Lit.int .u8 z).wf=true):0<=z/\z<=255:=by
 simp[Lit.wf,IntKind.min,IntKind.max,IntKind.signed,IntKind.bits] at h;omega
theorem jmu {W:World} {p q:List MemPlace} (h:W.noneFrozen p) (hq:∀x∈q,x∈p):W.noneFrozen q:=λb o hm=>h b o (hq _ hm)
theorem jxf:Tryz.prog.cellsOf 5=1:=by kernel_rfl
section
variable {H:Type} {enc:TypeId×Value->H} {W:World}
end
def j4m (i:Nat) (v:Value):Prop:=∃n,v=.int .u8 n/\0<=n/\n<=255
theorem jxe:Tryz.prog.cellsOf 43=3:=by kernel_rfl
section
variable {H:Type} {enc:TypeId×Value->H} {W:World}
theorem j95 {n:Nat} {cs:List Value} {y:DataW H×List MemPlace} (hl:cs.length=1) (h:DataW.trod enc Tryz.prog W 0 (λ_=>true) true n 5 cs=some y):∃a,cs=[.int .u8 a]/\0<=a/\a<=255:=by
 match cs,hl with
 | [c0],_=>
   obtain⟨a,ea,_,wa⟩:=Ua Tryz.underlying5 h;cases ea;exact⟨a,rfl,je1 wa⟩
theorem j4p {b0:Nat} {v:Value} {d:DataW H} {p:List MemPlace} (hv:Value.okWide Tryz.prog W .any b0 43 v) (h:DataW.Trod enc Tryz.prog W 0 (λ_=>true) true 43 v d p) (hf:W.noneFrozen p):
  ∃(v0:Value) (a b:Int) (l:Vm.Loc) (L:List Int) (M:List AV),v=.agg #[.int .u8 a,.int .u8 b,v0]/\(0<=a/\a<=255)/\(0<=b/\b<=255)/\(∀k∈L,0<=k)/\(∀A,bO (aX A (.int .u8)) L M)/\Oi 1 W v0 l L.length M:=by
 obtain⟨c0,c1,c2,y0,y1,y2,n,rfl,_,rfl,h0,h1,h2⟩:=Joins.open_agg3 Tryz.underlying43 (by kernel_rfl) jxe hv h;have hok:Cell.okWide Tryz.prog W .any b0 41 c2:=by
  simp only[Value.okWide,Tryz.underlying43] at hv;obtain⟨cs,e,_,ts,hts,_,hc⟩:=hv;cases e;have e2:Tryz.prog.cellTypes Tryz.prog.depth 43=some [5,5,41]:=by kernel_rfl
  rw[e2] at hts;cases hts;obtain⟨u,hu,hk⟩:=hc 2 c2 rfl;have:u=41:=by simp at hu;exact hu.symm
  rw[this] at hk;exact hk
 obtain⟨a,ea,_,wa⟩:=Ua Tryz.underlying5 h0;obtain⟨b,eb,_,wb⟩:=Ua Tryz.underlying5 h1;cases ea;cases eb;obtain⟨l,g,m,w0,a0⟩:=j7n (OKc:=j4m) (by decide) (λi v ⟨n,e,_⟩=>by rw[e];trivial) Tryz.underlying41 jxf (λn cs y hl h i hi=>by
  obtain⟨a,rfl,h1⟩:=j95 hl h;obtain rfl:i=0:=by omega
  exact⟨_,rfl,_,rfl,h1⟩) h2 hok (jmu hf λx hx=>by simp[hx])
 have len:((List.range m).map λi=>vD (g (i*1))).length=m:=by simp
 refine⟨c2,a,b,l,(List.range m).map λi=>vD (g (i*1)),_,rfl,je1 wa,je1 wb,λk hk=>?_,λA=>jo4 m λi hi=>?_,by rw[len];exact a0⟩
 ·obtain⟨i,hi,rfl⟩:=bU.1 hk;obtain⟨n,e,h1,_⟩:=w0 (i*1) (by have:=jI.1 hi;omega);rw[e];exact h1
 ·obtain⟨n,e,_⟩:=w0 (i*1) (by omega);have e2:((List.range 1).map λj=>dV (g (i*1+j)))=[dV (g (i*1))]:=rfl;rw[e2,e];rfl
end
abbrev tP6:Ty:=.prod (.int .u8) (.prod (.int .u8) (.sl (.int .u8)))
theorem jq8 {z:Int} (h:(Lit.int .u16 z).wf=true):0<=z/\z<=65535:=by
 simp[Lit.wf,IntKind.min,IntKind.max,IntKind.signed,IntKind.bits] at h;omega
section
variable {H:Type} {enc:TypeId×Value->H} {W:World}
end
theorem j0j {m:Nat} {f:FuncId} {run:eE [.d tP6,.d (.int .u16),.d .str]->Option (eE [.d .bool])} (ho:∀mx,cE (BB mx) (told mx) prog m [⟨f,[.d tP6,.d (.int .u16),.d .str],[.d .bool],run⟩]) {W:World} (hsh:W.ShapedOpen Tryz.prog) (hL:laidMetH Tryz.prog Rows.filesBackRow.laid W) {v0:Value} {l0:Vm.Loc} {L:List Int} {M:List AV} {a b n:Int} (bs:ByteArray)
  (hrun:run ((a,(b,L)),(n,bs.data.toList.map UInt8.toNat))=some true) (h0:∀A,bO (aX A (.int .u8)) L M) (k0:Oi 1 W v0 l0 L.length M):
  Calls Tryz.prog f #[.agg #[.int .u8 a,.int .u8 b,v0],.int .u16 n,.string bs] W λe W'=>e=.returned (.bool true)/\Below W.heap.size W W':=by
 obtain⟨mx,p1,p2,hR⟩:=start hsh hL [l0];have r0:oR W 9 [p2,p1,l0] 11=some l0:=rfl;obtain⟨HA,O0,u0,A0,q1,q2,q3,q4,q5,q6,q7,q8⟩:=j0m (by decide) h0 rfl k0 r0 hR (j72 mx) (j71 mx) (show nx0<=11 by decide) (by decide) (by simp);refine jxd (t:=⟨f,[.d tP6,.d (.int .u16),.d .str],[.d .bool],run⟩) (j9z mx) mixed Fl (n:=m) (ho mx _ (bF.2 rfl) m (aU _)) rfl (a:=((a,(b,L)),(n,bs.data.toList.map UInt8.toNat))) hrun q3 (A:=A0) (λx hx=>.inl (q5 x hx)) (vs:=[.agg [.int .u8 a,.int .u8 b,u0],.int .u16 n,.str (bs.data.toList.map UInt8.toNat)]) ?_ q1 jy8 (j6y (show 9+3<=RO by decide)) q2 ?_
 ·exact⟨_,_,[],[],rfl,rfl,⟨_,rfl,rfl,⟨[_],[_,_],rfl,rfl,[_],[_],rfl,rfl,⟨_,rfl,q7⟩⟩,rfl⟩,_,_,[],[],rfl,rfl,⟨rfl,rfl,rfl⟩,_,rfl,⟨rfl,rfl,rfl⟩⟩
 ·simp only[VRs,VR];exact⟨_,_,rfl,⟨_,rfl,_,_,rfl,rfl,_,_,rfl,rfl,_,_,rfl,q8,rfl⟩,_,_,rfl,rfl,_,_,rfl,⟨bs,rfl,rfl⟩,rfl⟩
end Vm
end Go.Proofs.YtccefhabickfiaaGreatDoor
