/- Parts of the proof. -/
import Derived.Test.YtccefhabickfiaaGreatDoorVmWE
import Derived.ProofKit
import Derived.OpenShut
import Derived.LaidMore
import Derived.Lay
import Derived.SevenTiedAt
set_option linter.unusedSimpArgs false
set_option linter.defProp false
set_option linter.unusedVariables false
namespace Go.Vm
namespace W
open Go Go.RowKit Go.ChangeShapes Go.WideShapes
variable {P:Program}
mutual
def Av:DataW Unit->Bool
 | .lit (.bool _) | .lit (.int _ _) | .lit (.string _)=>true
 | .agg l=>Fk l
 | _=>false
def Fk:List (DataW Unit)->Bool
 | []=>true
 | d::l=>Av d&&Fk l
end
def j0r {w:World} {sp:Nat->Bool} {l:Lit} {t:TypeId} {n:Nat} {x:List Value×List Obj} (hp:Av (.lit l)=true) (hl:(DataW.lit l:DataW Unit).lay P t n=some x)
  {fuel:Nat} {cs:List Value} {p:List MemPlace} (ht:DataW.trod (λ_=>()) P w 0 sp false fuel t cs=some (.lit l,p)):cs=x.1:=by
 cases fuel with
 | zero=>simp[DataW.trod] at ht
 | succ fuel=>
   cases l with
   | float k b=>simp[Av] at hp
   | nil=>simp[Av] at hp
   | bool b=>
     simp only[DataW.lay] at hl;split at hl
     ·rename_i hu he;cases he;cases hl;unfold DataW.trod at ht;rw[hu] at ht;split at ht<;>simp_all
     ·rename_i he;cases he
     ·rename_i he;cases he
     ·rename_i he;cases he
     ·cases hl
   | int k z=>
     simp only[DataW.lay] at hl;split at hl
     ·rename_i he;cases he
     ·rename_i hu he;cases he;split at hl
      ·cases hl;obtain⟨m,h1,h2,_⟩:=Ua hu ht;simp only[aM,DataW.lit.injEq,Lit.int.injEq,true_and] at h2;subst h1;rw[h2.1.2]
      ·cases hl
     ·rename_i he;cases he
     ·rename_i he;cases he
     ·cases hl
   | string bs=>
     simp only[DataW.lay] at hl;split at hl
     ·rename_i he;cases he
     ·rename_i he;cases he
     ·rename_i he;cases he
     ·rename_i hu he;cases he;split at hl
      ·cases hl;obtain⟨s,h1,h2,_⟩:=DataW.trod_string hu ht;simp only[aM,DataW.lit.injEq,Lit.string.injEq] at h2;subst h1;simp[h2.1]
      ·cases hl
     ·cases hl
def jqy {α:Type} {l a b:List α} {m n:Nat} (h1:l.take m=a) (h2:(l.drop m).take n=b):l.take (m+n)=a++b:=by
 rw[List.take_add,h1,h2]
mutual
def jbf {w:World} {sp:Nat->Bool}:∀(d:DataW Unit) (t:TypeId) (n:Nat) (x:List Value×List Obj),Av d=true->d.lay P t n=some x->
  ∀(fuel:Nat) (cs:List Value) (p:List MemPlace),DataW.trod (λ_=>()) P w 0 sp false fuel t cs=some (d,p)->cs=x.1
 | .lit l,t,n,x,hp,hl,fuel,cs,p,ht=>j0r hp hl ht
 | .agg ps,t,n,x,hp,hl,fuel,cs,p,ht=>by
   simp only[Av] at hp;simp only[DataW.lay] at hl;split at hl
   ·rename_i fs hu;split at hl
    ·rename_i y hy;split at hl
     ·rename_i hlen;cases hl;obtain⟨xs,m,_,h2,h3,h4,h5⟩:=DataW.trod_struct hu ht;simp only[aM,DataW.agg.injEq] at h2;have:=jlk ps (fs.toList.map λf=>(f.type,f.offset)) 0 n x hp hy m cs (xs.map (·.2)) (by
       rw[h2.1];refine⟨by simp[h4],by simp,λi f hf=>?_⟩;rw[jH] at hf;simp only[cX] at hf;obtain⟨g,hg,rfl⟩:=hf;have:=h5 i g (by simpa using hg);rw[this];simp;cases xs[i]?<;>rfl)
      rw[fZ,hlen,<-h3,mC] at this;exact this
     ·cases hl
    ·cases hl
   ·rename_i k e hu;split at hl
    ·rename_i y hy;split at hl
     ·rename_i hlen;cases hl;obtain⟨xs,m,_,h2,h3,h4,h5⟩:=DataW.trod_array hu ht;simp only[aM,DataW.agg.injEq] at h2;have:=jlj ps e n x hp hy m cs (xs.map (·.2)) 0 (by
       rw[h2.1];refine⟨by simp,λi hi=>?_⟩;have:=h5 i (by simp at hi;omega);rw[iC,this];simp;cases xs[i]?<;>rfl)
      rw[sR,fZ,hlen.2,<-h3,mC] at this;exact this
     ·cases hl
    ·cases hl
   ·cases hl
 | .nil,_,_,_,h,_,_,_,_,_=>by cases h
 | .ptr _,_,_,_,h,_,_,_,_,_=>by cases h
 | .slice _ _,_,_,_,h,_,_,_,_,_=>by cases h
 | .iface _ _,_,_,_,h,_,_,_,_,_=>by cases h
 | .map _,_,_,_,h,_,_,_,_,_=>by cases h
 | .held _,_,_,_,h,_,_,_,_,_=>by cases h
def jlj {w:World} {sp:Nat->Bool}:∀(ds:List (DataW Unit)) (e:TypeId) (n:Nat) (x:List Value×List Obj),Fk ds=true->DataW.layAll P e n ds=some x->
  ∀(fuel:Nat) (cs:List Value) (ps:List (List MemPlace)) (k:Nat),(ps.length=ds.length/\∀i,i<ds.length->DataW.trod (λ_=>()) P w 0 sp false fuel e ((cs.drop ((k+i)*P.cellsOf e)).take (P.cellsOf e))=match ds[i]?,ps[i]? with | some d,some p=>some (d,p) | _,_=>none)->
   (cs.drop (k*P.cellsOf e)).take x.1.length=x.1
 | [],e,n,x,_,hl,fuel,cs,ps,k,_=>by
   simp only[DataW.layAll,aG] at hl;subst hl;simp
 | d::ds,e,n,x,hp,hl,fuel,cs,ps,k,ht=>by
   simp only[Fk,aN] at hp;simp only[DataW.layAll] at hl;split at hl
   ·rename_i x1 h1;split at hl
    ·rename_i hlen;split at hl
     ·rename_i y hy;cases hl
      match ps,ht with
      | [],ht=>simp at ht
      | q::ps,⟨hlp,ht⟩=>
        have a1:=jbf d e n x1 hp.1 h1 fuel _ q (by simpa using ht 0 (by simp));have a2:=jlj ds e _ y hp.2 hy fuel cs ps (k+1) ⟨by simpa using hlp,λi hi=>by
         have:=ht (i+1) (by simpa using hi);rw[show k+1+i=k+ (i+1) by omega];simpa using this⟩
        simp only[dS];refine jqy (by rw[hlen];exact a1) ?_;rw[rF,hlen,<-Lr];exact a2
     ·cases hl
    ·cases hl
   ·cases hl
def jlk {w:World} {sp:Nat->Bool}:∀(ds:List (DataW Unit)) (fs:List (TypeId×Nat)) (o n:Nat) (x:List Value×List Obj),Fk ds=true->DataW.layEach P fs o n ds=some x->
  ∀(fuel:Nat) (cs:List Value) (ps:List (List MemPlace)),(fs.length=ds.length/\ps.length=ds.length/\∀(i:Nat) (f:TypeId×Nat),fs[i]?=some f->DataW.trod (λ_=>()) P w 0 sp false fuel f.1 ((cs.drop f.2).take (P.cellsOf f.1))=match ds[i]?,ps[i]? with | some d,some p=>some (d,p) | _,_=>none)->
   (cs.drop o).take x.1.length=x.1
 | [],fs,o,n,x,_,hl,fuel,cs,ps,_=>by
   cases fs with
   | nil=>
     simp only[DataW.layEach,aG] at hl;subst hl;simp
   | cons f fs=>simp[DataW.layEach] at hl
 | d::ds,fs,o,n,x,hp,hl,fuel,cs,ps,ht=>by
   simp only[Fk,aN] at hp;cases fs with
   | nil=>simp[DataW.layEach] at hl
   | cons f fs=>
     simp only[DataW.layEach] at hl;split at hl
     ·rename_i x1 h1;split at hl
      ·rename_i hlen;split at hl
       ·rename_i y hy;cases hl
        match ps,ht with
        | [],ht=>simp at ht
        | q::ps,⟨hlf,hlp,ht⟩=>
          have a1:=jbf d f.1 n x1 hp.1 h1 fuel _ q (by simpa using ht 0 f rfl);have a2:=jlk ds fs _ _ y hp.2 hy fuel cs ps ⟨by simpa using hlf,by simpa using hlp,λi g hg=>by
           have:=ht (i+1) g (by simpa using hg);simpa using this⟩
          simp only[dS];rw[hlen.1,<-hlen.2] at a1;refine jqy a1 ?_;rw[rF];exact a2
       ·cases hl
      ·cases hl
     ·cases hl
end
def Qg (P:Program) (x:String×DataW Unit):Option (Nat×List AV):=
 match P.globalNamed x.1 with
 | none=>none
 | some g=>match (P.globals[g]?).map (·.type),Av x.2 with
   | some t,true=>match x.2.lay P t 0 with
     | some y=>match y.1.mapM xZ with
       | some (a::l)=>some (g,a::l)
       | _=>none
     | none=>none
   | _,_=>none
def Ds (P:Program):List (String×DataW Unit)->Option (List (Nat×List AV))
 | []=>some []
 | x::r=>match Qg P x,Ds P r with
   | some e,some es=>some (e::es)
   | _,_=>none
def oG:List (Nat×List AV)->Tr Blk
 | []=>.e
 | (g,l)::r=>(oG r).set g (.cells (put l 0 .e) l.length)
def Kq:∀ {es:List (Nat×List AV)} {b:Nat} {k:Blk},(oG es).get b=some k->∃l,(b,l)∈es/\k=.cells (put l 0 .e) l.length
 | [],b,k,h=>by simp[oG,Tr.get] at h
 | (g,l)::r,b,k,h=>by
   simp only[oG,Tr.get_set] at h;split at h
   ·rename_i e;cases h;exact⟨l,by rw[e];exact bY ..,rfl⟩
   ·obtain⟨l',h1,h2⟩:=Kq h;exact⟨l',bX _ h1,h2⟩
def jjf:∀ {ls:List (String×DataW Unit)} {es:List (Nat×List AV)},Ds P ls=some es->∀e∈es,∃x∈ls,Qg P x=some e
 | [],es,h,e,he=>by simp only[Ds,aG] at h;subst h;cases he
 | x::r,es,h,e,he=>by
   simp only[Ds] at h;split at h
   ·rename_i e1 es1 h1 h2;cases h;rcases bL.1 he with rfl | he
    ·exact⟨x,bY ..,h1⟩
    ·obtain⟨y,k1,k2⟩:=jjf h2 e he;exact⟨y,bX _ k1,k2⟩
   ·cases h
def jbd {w:World}:∀ {l:List (String×DataW Unit)} {ps:List MemPlace},DataW.LaidVars P w l ps->∀x∈l,∃g t cs fuel p,P.globalNamed x.1=some g/\(P.globals[g]?).map (·.type)=some t/\w.var? P x.1=some cs/\
  DataW.trod (λ_=>()) P w 0 (λ_=>true) false fuel t cs.toList=some (x.2,p)/\∀q∈MemPlace.row ⟨g,0,none⟩ cs.size,q∈ps
 | [],_,_,_,h=>by cases h
 | (n,d)::r,ps,h,x,hx=>by
   obtain⟨g,t,cs,fuel,p,q,h1,h2,h3,h4,h5,h6⟩:=h;rcases bL.1 hx with rfl | hx
   ·exact⟨g,t,cs,fuel,p,h1,h2,h3,h4,λy hy=>by rw[h6];simp[hy]⟩
   ·obtain⟨g',t',cs',fuel',p',k1,k2,k3,k4,k5⟩:=jbd h5 x hx;exact⟨g',t',cs',fuel',p',k1,k2,k3,k4,λy hy=>by rw[h6];exact aZ.2 (.inr (k5 y hy))⟩
def jyk {laid:List (String×DataW Unit)} {w:World} (h:laidMet P laid w) {x:String×DataW Unit} (hx:x∈laid) {g:Nat} {l:List AV} (he:Qg P x=some (g,l)) (ρ:RM):
  ∃cs t,w.heap[g]?=some (.cells cs t (0,0))/\VRs ρ l cs.toList:=by
 obtain⟨ps,h1,_,h3⟩:=h;obtain⟨g',t,cs,fuel,p,k1,k2,k3,k4,k5⟩:=jbd h1 x hx;unfold Qg at he;rw[k1] at he;simp only[k2] at he;split at he
 ·rename_i t' ht' hp;cases ht';split at he
  ·rename_i y hy;split at he
   ·rename_i a l' hl;simp only[aG,aM] at he;obtain⟨rfl,rfl⟩:=he;have e1:=jbf x.2 t 0 y hp hy fuel _ p k4;have e2:=Rw ρ _ _ hl;rw[<-e1] at e2;have hs:0<cs.size:=by
     have:=e2.length;simp at this;omega
    obtain⟨⟨c,u,k6⟩,_⟩:=h3 g' 0 (k5 _ (by rw[MemPlace.mem_row];exact⟨0,hs,rfl⟩));refine⟨cs,u,?_,e2⟩;simp only[World.var?,k1,aO,k6] at k3
    simp_all
   ·cases he
  ·cases he
 ·cases he
def Me (w:World) (G:Nat):RM:=λb=>if b<G then(match w.heap[b]? with | some (.cells cs _ _)=>some ⟨b,0,cs.size⟩ | _=>some ⟨b,0,0⟩) else none
def j6x {w:World} {G b:Nat} (h:b<G):∃l,Me w G b=some l/\l.blk=b/\l.base=0:=by
 unfold Me;rw[aK h];split<;>exact⟨_,rfl,rfl,rfl⟩
def jq3 {H:Type} {enc:TypeId×Value->H} (hl:laidOutB P=true) {W W':World} {sp:Nat->Bool} (hb:Below W.heap.size W W'):∀ {ts:List TypeId} {vs:List Value} {ds:List (DataW H)} {ps:List MemPlace},
  (∀t∈ts,P.readableRec t=true/\t<P.types.size)->DataW.TrodAll enc P W 0 (λ_=>true) true ts vs ds ps->(∀p∈ps,p.block<W.heap.size)->(∀p∈ps,sp p.block=true)->DataW.TrodAll enc P W' 0 sp true ts vs ds ps
 | [],[],[],ps,_,h,_,_=>h
 | t::ts,v::vs,d::ds,ps,hr,h,hlt,hsp=>by
   obtain⟨p,q,h1,h2,rfl⟩:=h;refine⟨p,q,?_,jq3 hl hb (λt ht=>hr t (bX _ ht)) h2 (λx hx=>hlt x (aZ.2 (.inr hx))) (λx hx=>hsp x (aZ.2 (.inr hx))),rfl⟩;have:=hr t (bY ..);exact WideElems.Trod_stays hl this.1 this.2 h1 (λx hx=>hb.same (hlt x (aZ.2 (.inl hx)))) (λx hx=>hsp x (aZ.2 (.inl hx)))
 | [],[],_::_,_,_,h,_,_=>h.elim
 | [],_::_,_,_,_,h,_,_=>by cases ‹List (DataW H)›<;>exact h.elim
 | _::_,[],_,_,_,h,_,_=>by cases ‹List (DataW H)›<;>exact h.elim
 | _::_,_::_,[],_,_,h,_,_=>h.elim
def jq4 {H:Type} {enc:TypeId×Value->H} {W:World} {sp:Nat->Bool}:∀ {ts:List TypeId} {vs:List Value} {ds:List (DataW H)} {ps:List MemPlace},DataW.TrodAll enc P W 0 sp true ts vs ds ps->ds.length=ts.length
 | [],[],[],_,_=>rfl
 | t::ts,v::vs,d::ds,ps,h=>by
   obtain⟨p,q,_,h2,_⟩:=h;simp[jq4 h2]
 | [],[],_::_,_,h=>h.elim
 | [],_::_,ds,_,h=>by cases ds<;>exact h.elim
 | _::_,[],ds,_,h=>by cases ds<;>exact h.elim
 | _::_,_::_,[],_,h=>h.elim
def j0k {C:Checked} {f:FuncId} {fn:Func} {s:ChangeSpec} (hv:s.vars=[]) (hfn:∀(H:Type) (ds:List (DataW H)),ds.length=fn.params.toList.length->s.fn H ds={ results:=[.lit (.bool true)],args:=ds })
  {tb:TypeId} (hres:fn.resultTypes=#[tb]) (hb:C.prog.underlying tb=some .bool) (hl:laidOutB C.prog=true) (hpar:(fn.params.toList.all λt=>C.prog.readableRec t&&decide (t<C.prog.types.size))=true)
  {H:Type} {enc:TypeId×Value->H} {W:World} {args:Array Value} {ds gs:List (DataW H)} {before:List MemPlace} (hW:DataW.Whole enc C.prog fn.params.toList s.vars false W args.toList ds gs before)
  (hc:Calls C.prog f args W λe W'=>e=.returned (.bool true)/\Below W.heap.size W W'):
  Calls C.prog f args W λe W'=>∃v,e=.returned v/\s.post enc C.prog fn false true false false W args v W':=by
 refine hc.mono ?_;rintro e W' ⟨rfl,hbel⟩;have hW':=hW;obtain⟨p,q,hA,hV,rfl,hfz,hnd⟩:=hW;rw[hv] at hV;obtain⟨rfl,rfl⟩:=trodVars_none hV;have hds:=hfn H ds (jq4 hA);have hlt:∀x∈p++[],x.block<W.heap.size:=λx hx=>hW'.lt x hx
 have hlt':∀x∈p,x.block<W.heap.size:=λx hx=>hlt x (by simp[hx])
 have hr:∀t∈fn.params.toList,C.prog.readableRec t=true/\t<C.prog.types.size:=λt ht=>by
  have:=bS.1 hpar t ht;simpa using this
 have hAny:∀sp:Nat->Bool,(∀x∈p++([]:List MemPlace),sp x.block=true)->DataW.TrodAll enc C.prog W' 0 sp true fn.params.toList args.toList ds p:=λsp hsp=>
  jq3 hl hbel hr hA hlt' (λx hx=>hsp x (by simp[hx]))
 refine⟨_,rfl,ds,[],p++[],[],p,[],hW',?_,?_,?_,World.keptBut_mono (λx hx=>⟨hx,.inr (.inl (by simpa using hx))⟩) (hbel.frame (·∈p++[])),λh=>by cases h⟩
 ·rw[jQ,hds,hres];exact trodAll_mk1 (shut_bool hb true)
 ·rw[jQ,hds];exact hAny _ (λx hx=>by simpa using hlt x hx)
 ·rw[jQ,hds,hv];rfl
end W
end Go.Vm
