/-
  A law's row: what the listed variables hold, as the machine's memory at the start; the row's last step.
-/
import Derived.Test.YtahplmacekfjgaaVmWE
import Derived.ProofKit
import Derived.OpenShut
import Derived.LaidMore
import Derived.Lay
import Derived.SevenTiedAt
set_option linter.unusedSimpArgs false
set_option linter.unusedVariables false
set_option linter.unusedSectionVars false
set_option linter.unnecessarySimpa false
namespace Go.Vm
namespace W
open Go Go.RowKit Go.ChangeShapes Go.WideShapes
variable {P:Program}
def ofEnts:List (Nat×List AV)→Tr Blk
 | []=>.e
 | (g,l)::r=>(ofEnts r).set g (.cells (put l 0 .e) l.length)
def rho0 (w:World) (G:Nat):RM:=fun b=>if b<G then(match w.heap[b]? with | some (.cells cs _ _)=>some ⟨b,0,cs.size⟩ | _=>some ⟨b,0,0⟩) else none
theorem trodAll_below {H:Type} {enc:TypeId×Value→H} (hl:laidOutB P=true) {W W':World} {sp:Nat→Bool} (hb:Below W.heap.size W W'):∀ {ts:List TypeId} {vs:List Value} {ds:List (DataW H)} {ps:List MemPlace},
  (∀t∈ts,P.readableRec t=true∧t<P.types.size)→DataW.TrodAll enc P W 0 (fun _=>true) true ts vs ds ps→(∀p∈ps,p.block<W.heap.size)→(∀p∈ps,sp p.block=true)→DataW.TrodAll enc P W' 0 sp true ts vs ds ps
 | [],[],[],ps,_,h,_,_=>h
 | t::ts,v::vs,d::ds,ps,hr,h,hlt,hsp=>by
   obtain⟨p,q,h1,h2,rfl⟩:=h
   refine⟨p,q,?_,trodAll_below hl hb (fun t ht=>hr t (List.mem_cons_of_mem _ ht)) h2 (fun x hx=>hlt x (List.mem_append.2 (.inr hx))) (fun x hx=>hsp x (List.mem_append.2 (.inr hx))),rfl⟩
   have:=hr t (List.mem_cons_self ..)
   exact WideElems.Trod_stays hl this.1 this.2 h1 (fun x hx=>hb.same (hlt x (List.mem_append.2 (.inl hx)))) (fun x hx=>hsp x (List.mem_append.2 (.inl hx)))
 | [],[],_::_,_,_,h,_,_=>h.elim
 | [],_::_,_,_,_,h,_,_=>by cases ‹List (DataW H)›<;>exact h.elim
 | _::_,[],_,_,_,h,_,_=>by cases ‹List (DataW H)›<;>exact h.elim
 | _::_,_::_,[],_,_,h,_,_=>h.elim
theorem trodAll_len {H:Type} {enc:TypeId×Value→H} {W:World} {sp:Nat→Bool}:∀ {ts:List TypeId} {vs:List Value} {ds:List (DataW H)} {ps:List MemPlace},DataW.TrodAll enc P W 0 sp true ts vs ds ps→ds.length=ts.length
 | [],[],[],_,_=>rfl
 | t::ts,v::vs,d::ds,ps,h=>by
   obtain⟨p,q,_,h2,_⟩:=h
   simp[trodAll_len h2]
 | [],[],_::_,_,h=>h.elim
 | [],_::_,ds,_,h=>by cases ds<;>exact h.elim
 | _::_,[],ds,_,h=>by cases ds<;>exact h.elim
 | _::_,_::_,[],_,h=>h.elim
theorem law_post {C:Checked} {f:FuncId} {fn:Func} {s:ChangeSpec} (hv:s.vars=[]) (hfn:∀(H:Type) (ds:List (DataW H)),ds.length=fn.params.toList.length→s.fn H ds={ results:=[.lit (.bool true)],args:=ds })
  {tb:TypeId} (hres:fn.resultTypes=#[tb]) (hb:C.prog.underlying tb=some .bool) (hl:laidOutB C.prog=true) (hpar:(fn.params.toList.all fun t=>C.prog.readableRec t&&decide (t<C.prog.types.size))=true)
  {H:Type} {enc:TypeId×Value→H} {W:World} {args:Array Value} {ds gs:List (DataW H)} {before:List MemPlace} (hW:DataW.Whole enc C.prog fn.params.toList s.vars false W args.toList ds gs before)
  (hc:Calls C.prog f args W fun e W'=>e=.returned (.bool true)∧Below W.heap.size W W'):
  Calls C.prog f args W fun e W'=>∃v,e=.returned v∧s.post enc C.prog fn false true false false W args v W':=by
 refine hc.mono ?_
 rintro e W' ⟨rfl,hbel⟩
 have hW':=hW
 obtain⟨p,q,hA,hV,rfl,hfz,hnd⟩:=hW
 rw[hv] at hV
 obtain⟨rfl,rfl⟩:=trodVars_none hV
 have hds:=hfn H ds (trodAll_len hA)
 have hlt:∀x∈p++[],x.block<W.heap.size:=fun x hx=>hW'.lt x hx
 have hlt':∀x∈p,x.block<W.heap.size:=fun x hx=>hlt x (by simp[hx])
 have hr:∀t∈fn.params.toList,C.prog.readableRec t=true∧t<C.prog.types.size:=fun t ht=>by
  have:=List.all_eq_true.1 hpar t ht
  simpa using this
 have hAny:∀sp:Nat→Bool,(∀x∈p++([]:List MemPlace),sp x.block=true)→DataW.TrodAll enc C.prog W' 0 sp true fn.params.toList args.toList ds p:=fun sp hsp=>
  trodAll_below hl hbel hr hA hlt' (fun x hx=>hsp x (by simp[hx]))
 refine⟨_,rfl,ds,[],p++[],[],p,[],hW',?_,?_,?_,World.keptBut_mono (fun x hx=>⟨hx,.inr (.inl (by simpa using hx))⟩) (hbel.frame (·∈p++[])),fun h=>by cases h⟩
 ·rw[List.append_nil,hds,hres]
  exact trodAll_mk1 (shut_bool hb true)
 ·rw[List.append_nil,hds]
  exact hAny _ (fun x hx=>by simpa using hlt x hx)
 ·rw[List.append_nil,hds,hv]
  rfl
end W
end Go.Vm
