/-
  What the rows of this chapter need: the start's memory with what is not known of it, slice arguments, the call.
  Piles: arguments: a T of two byte slices.
  Piles: arguments: a T of two byte slices and an O.
-/
import Derived.Test.YtdngfcfomcffmaaGreatDoorQ8
import Derived.Test.YtdngfcfomcffmaaGreatDoorXG7
import Derived.Test.YtdngfcfomcffmaaGreatDoorTie
import Derived.Test.YtdngfcfomcffmaaGreatDoorCards
import Derived.Lib.SmallJoins
import Derived.Handed
import Derived.Shelf.Vars
import Derived.ChangeMaps5
import Derived.Stop.LaidErr
import Derived.LaidLaws
import Derived.ChangeMaps
import Derived.Test.YtdngfcfomcffmaaGreatDoorPLa
set_option linter.unusedSimpArgs false
set_option linter.unusedVariables false
namespace Go.Proofs.YtdngfcfomcffmaaGreatDoor
open Go.ChangeShapes Go.WideShapes Go.ChangeAt Go.RowKit
namespace Vm
open Go Go.Vm Go.Vm.W Go.Vm.X
set_option maxRecDepth 100000
theorem own:ownKnob Tryz.prog.godebug=none:=by kernel_rfl
theorem laidOut:laidOutB Tryz.prog=true:=by kernel_rfl
theorem rows_shaped {H:Type} {enc:TypeId×Value→H} {a:Assume} {C:Checked} {os:Os} {f:FuncId} {fn:Func} {s:ChangeSpec} {conds:List PathCond} {apart fresh handsOn again:Bool} {X:World→Array Value→Prop}
  (hX:∀(w w':World) (args:Array Value),w.heap=w'.heap→X w args→X w' args)
  (own:ownKnob C.prog.godebug=none) (started:os.Started) (noInit:C.prog.inits.idxOf? f=none) (hfn:C.prog.funcs[f]?=some fn)
  (witness:∃(w:World) (tape:Tape) (i:Input),w.os=os∧(w.forCall tape i).Shaped C.prog∧i.vars=[]∧Input.okWide C.prog (w.forCall tape i) .any w.heap.size f i∧
    ((s.pre enc C.prog fn conds apart (w.forCall tape i).memory i.args∧X (w.forCall tape i).memory i.args)∧sizedMet enc C.prog fn (OpenSpec.ofChange s) apart (w.forCall tape i).memory i.args)∧a.holds C.prog (lone (Frame.enter C.prog f i.args .normal) [] (w.forCall tape i)))
  (contract:∀(W:World) (base:Nat) (args:Array Value) (ds gs:List (DataW H)) (before:List MemPlace),W.ShapedOpen C.prog→
    (∀(j:Nat) t v,fn.params[j]?=some t→args[j]?=some v→Value.okWide C.prog W .any base t v)→
    DataW.Whole enc C.prog fn.params.toList s.vars apart W args.toList ds gs before→X W args→
    Calls C.prog f args W fun e W'=>∃v,e=.returned v∧s.post enc C.prog fn apart fresh handsOn again W args v W'):
  ReturnsInHanded a C os f .any (fun w args=>(s.pre enc C.prog fn conds apart w args∧X w args)∧sizedMet enc C.prog fn (OpenSpec.ofChange s) apart w args) (s.post enc C.prog fn apart fresh handsOn again):=by
 refine returnsInHanded_of_calls own started noInit witness ?_
 intro w tape i _ hsh _ hok hpre _
 obtain⟨_,_,_,fn',hfn',_,_,_,_,hval⟩:=hok
 obtain rfl:fn'=fn:=Option.some.inj (hfn'.symm.trans hfn)
 obtain⟨⟨⟨ds,gs,before,hw,_⟩,hx⟩,_⟩:=hpre
 have hw':=DataW.Whole.of_heap (w':=w.forCall tape i) (by rfl) hw
 refine(contract (w.forCall tape i) w.heap.size i.args ds gs before hsh hval hw' (hX _ _ _ (by rfl) hx)).mono fun e W' ⟨v,he,hp⟩=>?_
 subst he
 exact ChangeSpec.post_blind hp
theorem int_block {P:Program} {w:World} {g:Nat} {t:TypeId} {zero:Array Value} {k:IntKind} (h:w.ShapedOpen P) (hg:g<P.globals.size)
  (h0:((begin P (fun _ _=>0) default).world.heap[g]?).bind Obj.row?=some (zero,t)) (hz:zero.size=1)
  (hb:P.buildable t=true) (hc:P.cellTypes P.depth t=some [t]) (hu:P.underlying t=some (.int k)):∃m t',w.heap[g]?=some (.cells #[.int k m] t' (0,0)):=by
 obtain⟨m,hm⟩:=cell_of_shapedOpen_int h hg h0 hz hb hc hu
 obtain⟨cs,hh,hs,_⟩:=h.1 g zero t hg h0
 refine⟨m,t,?_⟩
 rw[hh]
 obtain⟨cl⟩:=cs
 match cl,hs.trans hz with
 | [v],_=>
   simp only[World.cell?,hh] at hm
   have:v=.int k m:=by simpa using hm
   rw[this]
theorem star: "*" ++ "errors.errorString" = "*errors.errorString" :=by decide
theorem tn_at (u:TypeId) (h:Tryz.prog.typeName? 3 u=some "*errors.errorString"):u=140:=
 typeName_ptr_named (nm:= "errors.errorString") (by rw[star];kernel_rfl) (by kernel_rfl) (by decide) u (by rw[star];exact h)
theorem laidS_in:∀x∈laidS,x∈Rows.pilesProfileRow.laid:=by
 intro x hx
 unfold laidS at hx
 obtain⟨y,hy,rfl⟩:=List.mem_map.1 hx
 exact List.fst_mem_of_mem_zipIdx (List.mem_filter.1 hy).1
theorem es_lt:∀e∈es,e.1<9:=by
 have:(es.all fun e=>e.1.blt 9)=true:=by kernel_rfl
 intro e he
 simpa using List.all_eq_true.1 this e he
theorem start {W:World} (hsh:W.ShapedOpen Tryz.prog) (hL:laidMet Tryz.prog Rows.pilesProfileRow.laid W) (ps:List Vm.Loc):∃mx p1 p2,HR (rho1 W 9 (p2::p1::ps)) (BB mx).H0 W:=by
 obtain⟨mx,t3,h3⟩:=int_block (g:=4) (t:=3) (zero:=#[.int .i64 0]) hsh (of_decide_eq_true (by kernel_rfl)) (by kernel_rfl) rfl (by kernel_rfl) (by kernel_rfl) Tryz.underlying3
 obtain⟨b1,o1,t1,h1⟩:=ifc_holds hL (nm:= "strconv.ErrSyntax") (name:= "*errors.errorString") (List.mem_of_getElem? (i:=5) rfl) (g:=1) (t:=93) (ty:=140) (e:=142) (by kernel_rfl) (by kernel_rfl) Tryz.underlying93 tn_at Tryz.underlying140 (of_decide_eq_true (by kernel_rfl))
 obtain⟨b2,o2,t2,h2⟩:=ifc_holds hL (nm:= "strconv.ErrRange") (name:= "*errors.errorString") (List.mem_of_getElem? (i:=4) rfl) (g:=2) (t:=93) (ty:=140) (e:=142) (by kernel_rfl) (by kernel_rfl) Tryz.underlying93 tn_at Tryz.underlying140 (of_decide_eq_true (by kernel_rfl))
 refine⟨mx,⟨b1,o1,0⟩,⟨b2,o2,0⟩,?_⟩
 have:=HR_more hL laidS_in es_ok (ex:=ex mx) 9 (⟨b2,o2,0⟩::⟨b1,o1,0⟩::ps) es_lt (by
  intro e he
  simp only[ex,List.mem_cons,List.not_mem_nil,or_false] at he
  rcases he with rfl | rfl | rfl
  ·exact⟨by show 4<9;decide,_,_,h3,_,_,rfl,by simp[VR],rfl⟩
  ·exact⟨by decide,_,_,h2,_,_,rfl,by simp[VR,rho1],rfl⟩
  ·exact⟨by decide,_,_,h1,_,_,rfl,by simp[VR,rho1],rfl⟩)
 rw[H0_eq] at this
 exact this
theorem start_lt (mx:Int):∀x,((BB mx).H0.get x).isSome→x<RO:=fun x hx=>by
 have:=BB_wf mx x hx
 exact Nat.lt_of_lt_of_le this (show nx0≤RO by decide)
theorem start_hk (mx:Int):HK (BB mx) RO [] (BB mx).H0 RO:=⟨show nx0≤RO by decide,by decide,fun _ _=>rfl,(fun _ h=>by cases h),List.nodup_nil⟩
theorem gl_ok {W:World} {ps:List Vm.Loc}:GLok gl (rho1 W 9 ps):=fun g hg=>by
 have:∀g∈gl,g<9:=by decide
 obtain⟨l,h1,h2,h3⟩:=rho1_at (w:=W) (ps:=ps) (this g (List.contains_iff_mem.1 hg))
 exact⟨l,h1,h2,h3⟩
end Vm
end Go.Proofs.YtdngfcfomcffmaaGreatDoor
namespace Go.Proofs.YtdngfcfomcffmaaGreatDoor
open Go.ChangeShapes Go.WideShapes Go.ChangeAt Go.RowKit
namespace Vm
open Go Go.Vm Go.Vm.W Go.Vm.X
set_option maxRecDepth 100000
end Vm
end Go.Proofs.YtdngfcfomcffmaaGreatDoor
namespace Go.Proofs.YtdngfcfomcffmaaGreatDoor
open Go.ChangeShapes Go.WideShapes Go.ChangeAt Go.RowKit
namespace Vm
open Go Go.Vm Go.Vm.W Go.Vm.X
set_option maxRecDepth 100000
end Vm
end Go.Proofs.YtdngfcfomcffmaaGreatDoor
