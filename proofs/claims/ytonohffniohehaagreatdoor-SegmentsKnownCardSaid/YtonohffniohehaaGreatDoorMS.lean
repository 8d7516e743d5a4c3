/-
  What the rows of this chapter need: the start, arguments of plain data, the calls.
-/
import Derived.Test.YtonohffniohehaaGreatDoorQ8
import Derived.Lib.SmallJoins
import Derived.Test.YtonohffniohehaaGreatDoorTie
import Derived.Test.YtonohffniohehaaGreatDoorCards
import Derived.Stop.LaidErr
set_option linter.unusedSimpArgs false
set_option linter.unusedVariables false
set_option linter.unusedSectionVars false
set_option linter.unnecessarySimpa false
namespace Go.Proofs.YtonohffniohehaaGreatDoor
open Go.ChangeShapes Go.WideShapes Go.ChangeAt Go.RowKit Go.Deep
namespace Vm
open Go Go.Vm Go.Vm.W Go.Vm.X
set_option maxRecDepth 100000
theorem own:ownKnob Tryz.prog.godebug=none:=by kernel_rfl
theorem khz:laidOutB Tryz.prog=true:=by kernel_rfl
theorem j73 {H:Type} {enc:TypeId×Value→H} {a:Assume} {C:Checked} {os:Os} {f:FuncId} {fn:Func} {s:ChangeSpec} {conds:List PathCond} {apart fresh handsOn j5o:Bool} {X:World→Array Value→Prop}
  (hX:∀(w w':World) (args:Array Value),w.heap=w'.heap→X w args→X w' args)
  (own:ownKnob C.prog.godebug=none) (started:os.Started) (noInit:C.prog.inits.idxOf? f=none) (hfn:C.prog.funcs[f]?=some fn)
  (witness:∃(w:World) (tape:Tape) (i:Input),w.os=os∧(w.forCall tape i).Shaped C.prog∧i.vars=[]∧Input.okWide C.prog (w.forCall tape i) .any w.heap.size f i∧
    ((s.pre enc C.prog fn conds apart (w.forCall tape i).memory i.args∧X (w.forCall tape i).memory i.args)∧sizedMet enc C.prog fn (OpenSpec.ofChange s) apart (w.forCall tape i).memory i.args)∧a.holds C.prog (lone (Frame.enter C.prog f i.args .normal) [] (w.forCall tape i)))
  (contract:∀(W:World) (base:Nat) (args:Array Value) (ds gs:List (DataW H)) (before:List MemPlace),W.ShapedOpen C.prog→
    (∀(j:Nat) t v,fn.params[j]?=some t→args[j]?=some v→Value.okWide C.prog W .any base t v)→
    DataW.Whole enc C.prog fn.params.toList s.vars apart W args.toList ds gs before→X W args→
    (DataW.weightsEach C.prog (fn.params.toList++s.plain.varTypes C.prog) (ds++gs)).all (·≤reachBytes)=true→
    Calls C.prog f args W fun e W'=>∃v,e=.returned v∧s.post enc C.prog fn apart fresh handsOn j5o W args v W'):
  ReturnsInHanded a C os f .any (fun w args=>(s.pre enc C.prog fn conds apart w args∧X w args)∧sizedMet enc C.prog fn (OpenSpec.ofChange s) apart w args) (s.post enc C.prog fn apart fresh handsOn j5o):=by
 refine returnsInHanded_of_calls own started noInit witness ?_
 intro w tape i _ hsh _ hok hpre _
 obtain⟨_,_,_,fn',hfn',_,_,_,_,hval⟩:=hok
 obtain rfl:fn'=fn:=Option.some.inj (hfn'.symm.trans hfn)
 obtain⟨⟨⟨ds,gs,before,hw,_⟩,hx⟩,hz⟩:=hpre
 have hw':=DataW.Whole.of_heap (w':=w.forCall tape i) (by rfl) hw
 refine(contract (w.forCall tape i) w.heap.size i.args ds gs before hsh hval hw' (hX _ _ _ (by rfl) hx) (hz.weights hw)).mono fun e W' ⟨v,he,hp⟩=>?_
 subst he
 exact ChangeSpec.post_blind hp
theorem kbi {P:Program} {w:World} {g:Nat} {t:TypeId} {zero:Array Value} {k:IntKind} (h:w.ShapedOpen P) (hg:g<P.globals.size)
  (h0:((begin P (fun _ _=>0) default).world.heap[g]?).bind Obj.row?=some (zero,t)) (hz:zero.size=1)
  (hb:P.buildable t=true) (hc:P.cellTypes P.depth t=some [t]) (hu:P.underlying t=some (.int k)):∃m t',w.heap[g]?=some (.cells #[.int k m] t' (0,0)):=by
 obtain⟨m,hm⟩:=cell_of_shapedOpen_int h hg h0 hz hb hc hu
 obtain⟨cs,hh,hs,_⟩:=h.1 g zero t hg h0
 refine⟨m,t,?_⟩
 rw[hh]
 obtain⟨cl⟩:=cs
 match cl,hs.trans hz with
 | [v],_=>
   simp only[World.cell?,hh] at hm
   have:v=.int k m:=by simpa using hm
   rw[this]
theorem laidMetH.data {P:Program} {l:List (String×DataW Unit)} {w:World} (h:laidMetH P l w):laidMet P (l.filter fun x=>x.2.handleName?.isNone) w:=by
 unfold laidMetH at h
 generalize hfl:(l.filter fun x=>x.2.handleName?.isSome)=fl at h
 cases fl with
 | nil=>
   have e:(l.filter fun x=>x.2.handleName?.isNone)=l:=by
    rw[List.filter_eq_self]
    intro x hx
    have:=(List.filter_eq_nil_iff.1 hfl) x hx
    cases hn:x.2.handleName? with
    | none=>rfl
    | some s=>rw[hn] at this;exact absurd rfl this
   rw[e];exact h
 | cons a ls=>exact h.1
theorem kse: "*" ++ "errors.errorString" = "*errors.errorString" :=by decide
theorem kj9 (u:TypeId) (h:Tryz.prog.typeName? 3 u=some "*errors.errorString"):u=250:=
 typeName_ptr_named (nm:= "errors.errorString") (by rw[kse];kernel_rfl) (by kernel_rfl) (by decide) u (by rw[kse];exact h)
theorem kec:∀x∈ked,x∈Rows.segmentsKnownRow.laid.filter fun x=>x.2.handleName?.isNone:=by
 intro x hx
 have hs:ked.all (fun y=>y.2.handleName?.isNone)=true:=by kernel_rfl
 have h2:=List.all_eq_true.1 hs x hx
 unfold ked at hx
 obtain⟨y,hy,rfl⟩:=List.mem_map.1 hx
 exact List.mem_filter.2 ⟨List.fst_mem_of_mem_zipIdx (List.mem_filter.1 hy).1,h2⟩
theorem kr1:∀e∈es,e.1<10:=by
 have:(es.all fun e=>e.1.blt 10)=true:=by kernel_rfl
 intro e he
 simpa using List.all_eq_true.1 this e he
theorem start {W:World} (hsh:W.ShapedOpen Tryz.prog) (hLH:laidMetH Tryz.prog Rows.segmentsKnownRow.laid W) (ps:List Vm.Loc):∃mx p1 p2,HR (j74 W 10 (p2::p1::ps)) (BB mx).H0 W:=by
 have hL:=laidMetH.data hLH
 obtain⟨mx,t3,h3⟩:=kbi (g:=1) (t:=3) (zero:=#[.int .i64 0]) hsh (of_decide_eq_true (by kernel_rfl)) (by kernel_rfl) rfl (by kernel_rfl) (by kernel_rfl) Tryz.underlying3
 obtain⟨b1,o1,t1,h1⟩:=j2c hL (nm:= "strconv.ErrSyntax") (name:= "*errors.errorString") (List.mem_of_getElem? (i:=5) rfl) (g:=3) (t:=116) (ty:=250) (e:=252) (by kernel_rfl) (by kernel_rfl) Tryz.underlying116 kj9 Tryz.underlying250 (of_decide_eq_true (by kernel_rfl))
 obtain⟨b2,o2,t2,h2⟩:=j2c hL (nm:= "strconv.ErrRange") (name:= "*errors.errorString") (List.mem_of_getElem? (i:=4) rfl) (g:=4) (t:=116) (ty:=250) (e:=252) (by kernel_rfl) (by kernel_rfl) Tryz.underlying116 kj9 Tryz.underlying250 (of_decide_eq_true (by kernel_rfl))
 refine⟨mx,⟨b1,o1,0⟩,⟨b2,o2,0⟩,?_⟩
 have:=kji hL kec kr0 (ex:=ex mx) 10 (⟨b2,o2,0⟩::⟨b1,o1,0⟩::ps) kr1 (by
  intro e he
  simp only[ex,List.mem_cons,List.not_mem_nil,or_false] at he
  rcases he with rfl | rfl | rfl
  ·exact⟨by show 1<10;decide,_,_,h3,_,_,rfl,by simp[VR],rfl⟩
  ·exact⟨by decide,_,_,h2,_,_,rfl,by simp[VR,j74],rfl⟩
  ·exact⟨by decide,_,_,h1,_,_,rfl,by simp[VR,j74],rfl⟩)
 rw[kjj] at this
 exact this
theorem kdp (mx:Int):∀x,((BB mx).H0.get x).isSome→x<RO:=fun x hx=>by
 have:=ksb mx x hx
 exact Nat.lt_of_lt_of_le this (show nx0≤RO by decide)
theorem kdq (mx:Int):HK (BB mx) RO [] (BB mx).H0 RO:=⟨show nx0≤RO by decide,by decide,fun _ _=>rfl,(fun _ h=>by cases h),List.nodup_nil⟩
theorem kru {W:World} {ps:List Vm.Loc}:GLok gl (j74 W 10 ps):=fun g hg=>by
 have:∀g∈gl,g<10:=by decide
 obtain⟨l,h1,h2,h3⟩:=kaf (w:=W) (ps:=ps) (this g (List.contains_iff_mem.1 hg))
 exact⟨l,h1,h2,h3⟩
noncomputable abbrev wit (os:Os):World:=(World.doorLaid Tryz.prog 600 os).layVars Tryz.prog [("unicode/utf8.first",Rows.laid_unicode_utf8_first)]
theorem kj6 (os:Os):(wit os).os=os:=World.layVars_os _ _ _
theorem ke0 (os:Os) (args:Array Value):laidMetH Tryz.prog Rows.segmentsKnownRow.laid ((wit os).forCall (fun _ _=>0) ⟨#[],args,[]⟩).memory:=
 laidMetH_of_parts3 (fuel:=8) (laidMet_of_run' 8 (by kernel_rfl) (by kernel_rfl)) (by kernel_rfl) (by kernel_rfl)
section
variable {H:Type} {enc:TypeId×Value→H} {W:World}
end
section
variable {H:Type} {enc:TypeId×Value→H} {W:World}
end
theorem kri {m:Nat} {f:FuncId} {run:jl4 []→Option (jl4 [.d .bool])} (ho:∀mx,OKs (BB mx) (told mx) prog m [⟨f,[],[.d .bool],run⟩]) {W:World} (hsh:W.ShapedOpen Tryz.prog) (hL:laidMetH Tryz.prog Rows.segmentsKnownRow.laid W) (hrun:run ()=some true):
  Calls Tryz.prog f #[] W fun e W'=>e=.returned (.bool true)∧Below W.heap.size W W':=by
 obtain⟨mx,p1,p2,hR⟩:=start hsh hL []
 exact j5j (t:=⟨f,[],[.d .bool],run⟩) (kgu mx) mixed ju1 (n:=m) (ho mx _ (List.mem_singleton.2 rfl) m (Nat.le_refl _)) rfl (a:=()) hrun (kdq mx) (A:=[]) (fun x hx=>by cases hx) (vs:=[]) ⟨rfl,rfl⟩ hR kru (kae (show 10+2≤RO by decide)) (kdp mx) (by simp[VRs])
end Vm
end Go.Proofs.YtonohffniohehaaGreatDoor
