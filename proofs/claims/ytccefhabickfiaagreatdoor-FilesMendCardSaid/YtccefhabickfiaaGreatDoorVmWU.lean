/- Parts of the proof. -/
import Derived.Test.YtccefhabickfiaaGreatDoorVmWF
set_option linter.unusedSimpArgs false
set_option linter.unusedVariables false
namespace Go.Vm
namespace W
open Go Go.RowKit
variable {P:Program}
theorem jxg {w:World} {a:Addr} {n:Nat} {l:List Value} (hn:0<n) (h:w.cells? 0 a n=some l):a.spot=none:=by
 unfold World.cells? at h;rw[aK (fM _)] at h;obtain⟨k,rfl⟩:∃k,n=k+1:=⟨n-1,by omega⟩
 rw[List.range_succ_eq_map,yN] at h;simp only[fS,dN] at h;obtain⟨v,h1,_⟩:=h;unfold World.cell? at h1;split at h1
 ·split at h1
  ·cases h1
  ·rename_i hs;simpa[Addr.add] using hs
 ·cases h1
theorem j91 {w:World} {f:Nat} {ty e:TypeId} {cs:List Value} {d:DataW Unit} {p:List MemPlace} (hp:P.underlying ty=some (.pointer e)) (hc:0<P.cellsOf e) (h:DataW.trod (λ_=>()) P w 0 (λ_=>true) false f ty cs=some (.ptr d,p)):
  ∃b off,cs=[.pointer (some ⟨b,off,none⟩)]:=by
 cases f with
 | zero=>cases h
 | succ f=>
   unfold DataW.trod at h;simp only[hp] at h
   split at h<;>rename_i heq<;>first
    | (cases heq;done)
    | (cases h;done)
    | skip
   ·rename_i a;cases heq;simp only[cX,dN] at h;obtain⟨x,⟨l,hl,_⟩,_⟩:=h;obtain⟨b,off,sp⟩:=a;have:sp=none:=jxg hc hl;subst this;exact⟨b,off,rfl⟩
theorem j90 {w:World} {f:Nat} {t:TypeId} {cs:List Value} {d:DataW Unit} {name:String} {p:List MemPlace} {ms:Array (String×TypeId)} (hu:P.underlying t=some (.interface ms)) (h:DataW.trod (λ_=>()) P w 0 (λ_=>true) false f t cs=some (.iface name d,p)):
  ∃u v f q,cs=[.iface u v]/\P.typeName? 3 u=some name/\DataW.trod (λ_=>()) P w 0 (λ_=>true) false f u v.cells.toList=some (d,q):=by
 cases f with
 | zero=>cases h
 | succ f=>
   unfold DataW.trod at h;simp only[hu] at h
   split at h<;>rename_i heq<;>first
    | (cases heq;done)
    | (cases h;done)
    | skip
   ·rename_i u v;split at h<;>try (cases h;done)
    rename_i nm hn;simp only[cX,aM] at h;obtain⟨x,h1,h2,h3⟩:=h;cases h2;exact⟨u,v,f,x.2,rfl,hn,h1⟩
theorem jkp {laid:List (String×DataW Unit)} {w:World} (h:laidMet P laid w) {nm name:String} {d:DataW Unit} (hx:(nm,DataW.iface name (.ptr d))∈laid) {g:Nat} {t:TypeId} {ty e:TypeId} {ms:Array (String×TypeId)} (hg:P.globalNamed nm=some g) (ht:(P.globals[g]?).map (·.type)=some t)
  (hu:P.underlying t=some (.interface ms)) (hty:∀u,P.typeName? 3 u=some name->u=ty) (hp:P.underlying ty=some (.pointer e)) (hc:0<P.cellsOf e):
  ∃b off tt,w.heap[g]?=some (.cells #[.iface ty (.pointer (some ⟨b,off,none⟩))] tt (0,0)):=by
 obtain⟨ps,h1,_,h3⟩:=h;obtain⟨g',t',cs,fuel,p,k1,k2,k3,k4,k5⟩:=jbd h1 _ hx;rw[hg] at k1;cases k1;rw[ht] at k2;cases k2;obtain⟨u,v,f,q,e1,e2,e3⟩:=j90 hu k4;obtain rfl:=hty u e2;obtain⟨b,off,e4⟩:=j91 hp hc e3;have hcs:cs=#[.iface u v]:=gF.1 e1;subst hcs;obtain⟨⟨c,tt,k6⟩,ok⟩:=h3 g 0 (k5 _ (by rw[MemPlace.mem_row];exact⟨0,by simp,rfl⟩));have k7:w.heap[g]?=some (.cells #[.iface u v] tt (0,0)):=by
  simp only[World.var?,hg,aO,k6] at k3;cases k3;exact k6
 have ok:=ok u v (by simp[World.cell?,k7]);have hv:v=.pointer (some ⟨b,off,none⟩):=by
  simp only[Value.okWide,hp] at ok;cases v<;>simp[Value.cells] at e4<;>first | (rw[e4];done) | (exact absurd e4 (by simp)) | skip
  all_goals simp[Cell.okWide,Cell.ok,hp] at ok
 subst hv;exact⟨b,off,tt,k7⟩
def oR (w:World) (G:Nat) (ps:List Loc):RM:=λb=>if b<G then Me w G b else ps[b-G]?
theorem jo0 {w:World} {G b:Nat} {ps:List Loc} (h:b<G):∃l,oR w G ps b=some l/\l.blk=b/\l.base=0:=by
 unfold oR;rw[aK h];exact j6x h
theorem j6y {w:World} {G n:Nat} {ps:List Loc} (h:G+ps.length<=n):∀b,n<=b->oR w G ps b=none:=λb hb=>by
 unfold oR;rw[aD (by omega),tW (by omega)]
theorem juh {laid ls:List (String×DataW Unit)} {w:World} (h:laidMet P laid w) (hs:∀x∈ls,x∈laid) {es ex:List (Nat×List AV)} (he:Ds P ls=some es) (G:Nat) (ps:List Loc) (hG:∀e∈es,e.1<G)
  (hx:∀e∈ex,e.1<G/\∃cs t,w.heap[e.1]?=some (.cells cs t (0,0))/\VRs (oR w G ps) e.2 cs.toList):HR (oR w G ps) (oG (ex++es)) w:=by
 have all:∀e∈ex++es,e.1<G/\∃cs t,w.heap[e.1]?=some (.cells cs t (0,0))/\VRs (oR w G ps) e.2 cs.toList:=by
  intro e hm;rcases aZ.1 hm with hm | hm
  ·exact hx e hm
  ·obtain⟨x,h2,h3⟩:=jjf he _ hm;exact⟨hG e hm,jyk h (hs x h2) h3 _⟩
 have lt:∀ {b:Nat},((oG (ex++es)).get b).isSome->b<G:=by
  intro b hb;obtain⟨k,hk⟩:=lN.1 hb;obtain⟨as,h1,_⟩:=Kq hk;exact(all _ h1).1
 have key:∀ {b:Nat} {l:Loc},b<G->oR w G ps b=some l->l.blk=b:=by
  intro b l hb hl;obtain⟨l',h1,h2,_⟩:=jo0 (w:=w) (ps:=ps) hb;rw[h1] at hl;cases hl;exact h2
 refine⟨λb k l hk hl=>?_,λb b' l l' i1 i2 e1 e2 e=>by left;rw[<-key (lt i1) e1,<-key (lt i2) e2,e]⟩;obtain⟨as,h1,rfl⟩:=Kq hk;obtain⟨hb,cs,t,h4,h5⟩:=all _ h1;simp only at hb h4 h5;have hl2:Me w G b=some l:=by rw[<-hl];unfold oR;rw[aK hb]
 unfold Me at hl2;rw[aK hb,h4] at hl2;simp only[aG] at hl2;subst hl2;have h6:=h5.length;simp only[gS] at h6;refine⟨cs,t,(0,0),h4,by simp;omega,aU _,λi _ _=>by simp,λi hi=>?_⟩;obtain⟨a,ha⟩:∃a,as[i]?=some a:=⟨as[i],by simp[hi]⟩
 obtain⟨v,hv,hr⟩:=h5.get ha;exact⟨a,v,by rw[mP,aK (by omega)];exact ha,by simpa using hv,hr⟩
end W
end Go.Vm
