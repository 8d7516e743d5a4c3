/-
  What the rows of this chapter need: the start's memory with what is not known of it, slice arguments, the call.
  Ends: a law's call on a T; on a T and a step.
-/
import Derived.Test.YtldgdgacdcenkaaGreatDoorQ8
import Derived.Test.YtldgdgacdcenkaaGreatDoorTie
import Derived.Test.YtldgdgacdcenkaaGreatDoorCards
import Derived.Lib.SmallJoins
import Derived.Test.YtldgdgacdcenkaaGreatDoorPLa
import Derived.Stop.LaidErr
set_option linter.unusedSimpArgs false
set_option linter.unusedVariables false
set_option linter.unusedSectionVars false
set_option linter.unnecessarySimpa false
namespace Go.Proofs.YtldgdgacdcenkaaGreatDoor
open Go.ChangeShapes Go.WideShapes Go.ChangeAt Go.RowKit
namespace Vm
open Go Go.Vm Go.Vm.W Go.Vm.X
set_option maxRecDepth 100000
theorem own:ownKnob Tryz.prog.godebug=none:=by kernel_rfl
theorem kad:laidOutB Tryz.prog=true:=by kernel_rfl
theorem jwx {H:Type} {enc:TypeId×Value→H} {a:Assume} {C:Checked} {os:Os} {f:FuncId} {fn:Func} {s:ChangeSpec} {conds:List PathCond} {apart fresh handsOn j1w:Bool} {X:World→Array Value→Prop}
  (hX:∀(w w':World) (args:Array Value),w.heap=w'.heap→X w args→X w' args)
  (own:ownKnob C.prog.godebug=none) (started:os.Started) (noInit:C.prog.inits.idxOf? f=none) (hfn:C.prog.funcs[f]?=some fn)
  (witness:∃(w:World) (tape:Tape) (i:Input),w.os=os∧(w.forCall tape i).Shaped C.prog∧i.vars=[]∧Input.okWide C.prog (w.forCall tape i) .any w.heap.size f i∧
    ((s.pre enc C.prog fn conds apart (w.forCall tape i).memory i.args∧X (w.forCall tape i).memory i.args)∧sizedMet enc C.prog fn (OpenSpec.ofChange s) apart (w.forCall tape i).memory i.args)∧a.holds C.prog (lone (Frame.enter C.prog f i.args .normal) [] (w.forCall tape i)))
  (contract:∀(W:World) (base:Nat) (args:Array Value) (ds gs:List (DataW H)) (before:List MemPlace),W.ShapedOpen C.prog→
    (∀(j:Nat) t v,fn.params[j]?=some t→args[j]?=some v→Value.okWide C.prog W .any base t v)→
    DataW.Whole enc C.prog fn.params.toList s.vars apart W args.toList ds gs before→X W args→
    Calls C.prog f args W fun e W'=>∃v,e=.returned v∧s.post enc C.prog fn apart fresh handsOn j1w W args v W'):
  ReturnsInHanded a C os f .any (fun w args=>(s.pre enc C.prog fn conds apart w args∧X w args)∧sizedMet enc C.prog fn (OpenSpec.ofChange s) apart w args) (s.post enc C.prog fn apart fresh handsOn j1w):=by
 refine returnsInHanded_of_calls own started noInit witness ?_
 intro w tape i _ hsh _ hok hpre _
 obtain⟨_,_,_,fn',hfn',_,_,_,_,hval⟩:=hok
 obtain rfl:fn'=fn:=Option.some.inj (hfn'.symm.trans hfn)
 obtain⟨⟨⟨ds,gs,before,hw,_⟩,hx⟩,_⟩:=hpre
 have hw':=DataW.Whole.of_heap (w':=w.forCall tape i) (by rfl) hw
 refine(contract (w.forCall tape i) w.heap.size i.args ds gs before hsh hval hw' (hX _ _ _ (by rfl) hx)).mono fun e W' ⟨v,he,hp⟩=>?_
 subst he
 exact ChangeSpec.post_blind hp
theorem j38 {P:Program} {w:World} {g:Nat} {t:TypeId} {zero:Array Value} {k:IntKind} (h:w.ShapedOpen P) (hg:g<P.globals.size)
  (h0:((begin P (fun _ _=>0) default).world.heap[g]?).bind Obj.row?=some (zero,t)) (hz:zero.size=1)
  (hb:P.buildable t=true) (hc:P.cellTypes P.depth t=some [t]) (hu:P.underlying t=some (.int k)):∃m t',w.heap[g]?=some (.cells #[.int k m] t' (0,0)):=by
 obtain⟨m,hm⟩:=cell_of_shapedOpen_int h hg h0 hz hb hc hu
 obtain⟨cs,hh,hs,_⟩:=h.1 g zero t hg h0
 refine⟨m,t,?_⟩
 rw[hh]
 obtain⟨cl⟩:=cs
 match cl,hs.trans hz with
 | [v],_=>
   simp only[World.cell?,hh] at hm
   have:v=.int k m:=by simpa using hm
   rw[this]
theorem laidMetH.data {P:Program} {l:List (String×DataW Unit)} {w:World} (h:laidMetH P l w):laidMet P (l.filter fun x=>x.2.handleName?.isNone) w:=by
 unfold laidMetH at h
 generalize hfl:(l.filter fun x=>x.2.handleName?.isSome)=fl at h
 cases fl with
 | nil=>
   have e:(l.filter fun x=>x.2.handleName?.isNone)=l:=by
    rw[List.filter_eq_self]
    intro x hx
    have:=(List.filter_eq_nil_iff.1 hfl) x hx
    cases hn:x.2.handleName? with
    | none=>rfl
    | some s=>rw[hn] at this;exact absurd rfl this
   rw[e];exact h
 | cons a ls=>exact h.1
theorem jxa {P:Program} {w:World} {base:Nat} {sp:Nat→Bool} {jak:Nat} {t:TypeId} {ps rs:Array TypeId} {va:Bool} {v:Value} {q:List MemPlace} (ht:P.underlying t=some (.func ps rs va))
  (h:DataW.trod (funcToken P) P w base sp true jak t [v]=some (.nil,q)):v=.nilFunc:=by
 cases jak with
 | zero=>simp[DataW.trod] at h
 | succ n=>cases v<;>simp[DataW.trod,ht] at h;rfl
theorem kba:Tryz.prog.cellsOf 70=4:=by kernel_rfl
theorem kbb:Tryz.prog.cellsOf 69=1:=by kernel_rfl
theorem kg7 {H:Type} {f:Nat→Option (DataW H×List MemPlace)} {a b c d:DataW H} {p:List MemPlace} (h:((List.range 4).mapM f).map (fun xs=>((.agg (xs.map (·.1)),xs.flatMap (·.2)):DataW H×List MemPlace))=some (.agg [a,b,c,d],p)):
  (∃q,f 0=some (a,q))∧(∃q,f 1=some (b,q))∧(∃q,f 2=some (c,q))∧∃q,f 3=some (d,q):=by
 obtain⟨xs,h1,h2⟩:=Option.map_eq_some_iff.1 h
 simp only[show List.range 4=[0,1,2,3] from rfl,List.mapM_cons,List.mapM_nil,Option.bind_eq_bind,Option.bind_eq_some_iff,Option.pure_def,Option.some.injEq] at h1
 obtain⟨x0,e0,_,⟨x1,e1,_,⟨x2,e2,_,⟨x3,e3,_,rfl,rfl⟩,rfl⟩,rfl⟩,rfl⟩:=h1
 simp only[List.map_cons,List.map_nil,Prod.mk.injEq,DataW.agg.injEq,List.cons.injEq,and_true] at h2
 obtain⟨⟨rfl,rfl,rfl,rfl⟩, -⟩:=h2
 exact⟨⟨_,e0⟩,⟨_,e1⟩,⟨_,e2⟩,⟨_,e3⟩⟩
theorem jts {W:World} (hsh:W.ShapedOpen Tryz.prog) (hL:laidMetH Tryz.prog Rows.endsFoldRow.laid W):∃t,W.heap[0]?=some (.cells #[.nilFunc,.func (.func 144) #[] #[],.func (.func 145) #[] #[],.func (.func 146) #[] #[]] t (0,0)):=by
 obtain⟨g,t,cs,jak,p,hg,ht,hv,hd⟩:=laidMetH.funcs hL (n:= "crimp/ends.allowed") (List.mem_of_getElem? (i:=7) rfl)
 obtain rfl:=Option.some.inj ((show Tryz.prog.globalNamed "crimp/ends.allowed" =some 0 by kernel_rfl).symm.trans hg)
 obtain rfl:=Option.some.inj ((show(Tryz.prog.globals[0]?).map (·.type)=some 70 by kernel_rfl).symm.trans ht)
 obtain⟨cs',hh,hs,_⟩:=hsh.1 0 #[.nilFunc,.nilFunc,.nilFunc,.nilFunc] 70 (of_decide_eq_true (by kernel_rfl)) (by kernel_rfl)
 have hcs:cs=cs':=by
  unfold World.var? at hv
  rw[hg,Option.bind_some,hh] at hv
  exact(Option.some.inj hv).symm
 subst hcs
 obtain⟨cl⟩:=cs
 match cl,hs with
 | [c0,c1,c2,c3],_=>
   cases jak with
   | zero=>cases hd
   | succ n=>
     unfold DataW.trod at hd
     simp only[Tryz.underlying70,kba,kbb,List.length_cons,List.length_nil,if_true] at hd
     obtain⟨⟨_,e0⟩,⟨_,e1⟩,⟨_,e2⟩,⟨_,e3⟩⟩:=kg7 (a:=.nil) hd
     obtain rfl:=jxa Tryz.underlying69 e0
     obtain rfl:=func_of_trod (f0:=144) Tryz.underlying69 (by kernel_rfl) e1
     obtain rfl:=func_of_trod (f0:=145) Tryz.underlying69 (by kernel_rfl) e2
     obtain rfl:=func_of_trod (f0:=146) Tryz.underlying69 (by kernel_rfl) e3
     exact⟨70,hh⟩
theorem kg0: "*" ++ "errors.errorString" = "*errors.errorString" :=by decide
theorem kb7 (u:TypeId) (h:Tryz.prog.typeName? 3 u=some "*errors.errorString"):u=163:=
 typeName_ptr_named (nm:= "errors.errorString") (by rw[kg0];kernel_rfl) (by kernel_rfl) (by decide) u (by rw[kg0];exact h)
theorem j7a:∀x∈j7b,x∈Rows.endsFoldRow.laid.filter fun x=>x.2.handleName?.isNone:=by
 intro x hx
 have hs:j7b.all (fun y=>y.2.handleName?.isNone)=true:=by kernel_rfl
 have h2:=List.all_eq_true.1 hs x hx
 unfold j7b at hx
 obtain⟨y,hy,rfl⟩:=List.mem_map.1 hx
 exact List.mem_filter.2 ⟨List.fst_mem_of_mem_zipIdx (List.mem_filter.1 hy).1,h2⟩
theorem kgu:∀e∈es,e.1<10:=by
 have:(es.all fun e=>e.1.blt 10)=true:=by kernel_rfl
 intro e he
 simpa using List.all_eq_true.1 this e he
theorem j6l {W:World} (hsh:W.ShapedOpen Tryz.prog) (hLH:laidMetH Tryz.prog Rows.endsFoldRow.laid W) (ps:List Vm.Loc):∃mx p1 p2,HR (j0t W 10 (p2::p1::ps)) (BB mx).H0 W:=by
 have hL:=laidMetH.data hLH
 obtain⟨mx,t3,h3⟩:=j38 (g:=5) (t:=3) (zero:=#[.int .i64 0]) hsh (of_decide_eq_true (by kernel_rfl)) (by kernel_rfl) rfl (by kernel_rfl) (by kernel_rfl) Tryz.underlying3
 obtain⟨b1,o1,t1,h1⟩:=ju5 hL (nm:= "strconv.ErrSyntax") (name:= "*errors.errorString") (List.mem_of_getElem? (i:=5) rfl) (g:=2) (t:=111) (ty:=163) (e:=165) (by kernel_rfl) (by kernel_rfl) Tryz.underlying111 kb7 Tryz.underlying163 (of_decide_eq_true (by kernel_rfl))
 obtain⟨b2,o2,t2,h2⟩:=ju5 hL (nm:= "strconv.ErrRange") (name:= "*errors.errorString") (List.mem_of_getElem? (i:=4) rfl) (g:=3) (t:=111) (ty:=163) (e:=165) (by kernel_rfl) (by kernel_rfl) Tryz.underlying111 kb7 Tryz.underlying163 (of_decide_eq_true (by kernel_rfl))
 obtain⟨t4,h4⟩:=jts hsh hLH
 refine⟨mx,⟨b1,o1,0⟩,⟨b2,o2,0⟩,?_⟩
 have:=kbq hL j7a kgt (ex:=ex mx) 10 (⟨b2,o2,0⟩::⟨b1,o1,0⟩::ps) kgu (by
  intro e he
  simp only[ex,List.mem_cons,List.not_mem_nil,or_false] at he
  rcases he with rfl | rfl | rfl | rfl
  ·exact⟨by show 5<10;decide,_,_,h3,_,_,rfl,by simp[VR],rfl⟩
  ·exact⟨by decide,_,_,h2,_,_,rfl,by simp[VR,j0t],rfl⟩
  ·exact⟨by decide,_,_,h1,_,_,rfl,by simp[VR,j0t],rfl⟩
  ·exact⟨by decide,_,_,h4,by simp[VRs,VR]⟩)
 rw[kbr] at this
 exact this
theorem j6j (mx:Int):∀x,((BB mx).H0.get x).isSome→x<RO:=fun x hx=>by
 have:=kgx mx x hx
 exact Nat.lt_of_lt_of_le this (show nx0≤RO by decide)
theorem j6k (mx:Int):HK (BB mx) RO [] (BB mx).H0 RO:=⟨show nx0≤RO by decide,by decide,fun _ _=>rfl,(fun _ h=>by cases h),List.nodup_nil⟩
theorem kgr {W:World} {ps:List Vm.Loc}:GLok gl (j0t W 10 ps):=fun g hg=>by
 have:∀g∈gl,g<10:=by decide
 obtain⟨l,h1,h2,h3⟩:=j25 (w:=W) (ps:=ps) (this g (List.contains_iff_mem.1 hg))
 exact⟨l,h1,h2,h3⟩
noncomputable abbrev wit (os:Os):World:=(World.doorLaid Tryz.prog 600 os).layVars Tryz.prog [("unicode/utf8.first",Rows.laid_unicode_utf8_first)]
theorem kb3 (os:Os):(wit os).os=os:=World.layVars_os _ _ _
theorem j7w (os:Os) (args:Array Value):laidMetH Tryz.prog Rows.endsFoldRow.laid ((wit os).forCall (fun _ _=>0) ⟨#[],args,[]⟩).memory:=
 laidMetH_of_parts3 (fuel:=8) (laidMet_of_run' 8 (by kernel_rfl) (by kernel_rfl)) (by kernel_rfl) (by kernel_rfl)
end Vm
end Go.Proofs.YtldgdgacdcenkaaGreatDoor
namespace Go.Proofs.YtldgdgacdcenkaaGreatDoor
open Go.ChangeShapes Go.WideShapes Go.ChangeAt Go.RowKit
namespace Vm
open Go Go.Vm Go.Vm.W Go.Vm.X
set_option maxRecDepth 100000
theorem kf6 {m:Nat} {f:FuncId} {run:ji0 []→Option (ji0 [.d .bool])} (ho:∀mx,OKs (BB mx) (ja0 mx) prog m [⟨f,[],[.d .bool],run⟩]) (hrun:run ()=some true)
  {W:World} (hsh:W.ShapedOpen Tryz.prog) (hL:laidMetH Tryz.prog Rows.endsFoldRow.laid W):
  Calls Tryz.prog f #[] W fun e W'=>e=.returned (.bool true)∧Below W.heap.size W W':=by
 obtain⟨mx,p1,p2,hR⟩:=j6l hsh hL []
 exact jx2 (t:=⟨f,[],[.d .bool],run⟩) (j9a mx) mixed j3b (n:=m) (ho mx _ (List.mem_singleton.2 rfl) m (Nat.le_refl _)) rfl (a:=()) hrun (j6k mx) (A:=[]) (fun x hx=>by cases hx) (vs:=[]) ⟨rfl,rfl⟩ hR kgr (j24 (show 10+2≤RO by decide)) (j6j mx) (by simp[VRs])
end Vm
end Go.Proofs.YtldgdgacdcenkaaGreatDoor
