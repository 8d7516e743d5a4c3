/-
  Variables of the start that hold an interface: what is known of them.
-/
import Derived.Test.YtonohffniohehaaGreatDoorVmWF
set_option linter.unusedSimpArgs false
set_option linter.unusedVariables false
set_option linter.unusedSectionVars false
set_option linter.unnecessarySimpa false
namespace Go.Vm
namespace W
open Go Go.RowKit
variable {P:Program}
theorem j8q {w:World} {a:Addr} {n:Nat} {l:List Value} (hn:0<n) (h:w.cells? 0 a n=some l):a.spot=none:=by
 unfold World.cells? at h
 rw[if_pos (Nat.zero_le _)] at h
 obtain⟨k,rfl⟩:∃k,n=k+1:=⟨n-1,by omega⟩
 rw[List.range_succ_eq_map,List.mapM_cons] at h
 simp only[Option.bind_eq_bind,Option.bind_eq_some_iff] at h
 obtain⟨v,h1,_⟩:=h
 unfold World.cell? at h1
 split at h1
 ·split at h1
  ·cases h1
  ·rename_i hs
   simpa[Addr.add] using hs
 ·cases h1
theorem kdl {w:World} {f:Nat} {ty e:TypeId} {cs:List Value} {d:DataW Unit} {p:List MemPlace} (hp:P.underlying ty=some (.pointer e)) (hc:0<P.cellsOf e) (h:DataW.trod (fun _=>()) P w 0 (fun _=>true) false f ty cs=some (.ptr d,p)):
  ∃b off,cs=[.pointer (some ⟨b,off,none⟩)]:=by
 cases f with
 | zero=>cases h
 | succ f=>
   unfold DataW.trod at h
   simp only[hp] at h
   split at h<;>rename_i heq<;>first
    | (cases heq;done)
    | (cases h;done)
    | skip
   ·rename_i a
    cases heq
    simp only[Option.map_eq_some_iff,Option.bind_eq_some_iff] at h
    obtain⟨x,⟨l,hl,_⟩,_⟩:=h
    obtain⟨b,off,sp⟩:=a
    have:sp=none:=j8q hc hl
    subst this
    exact⟨b,off,rfl⟩
theorem kdm {w:World} {f:Nat} {t:TypeId} {cs:List Value} {d:DataW Unit} {name:String} {p:List MemPlace} {ms:Array (String×TypeId)} (hu:P.underlying t=some (.interface ms)) (h:DataW.trod (fun _=>()) P w 0 (fun _=>true) false f t cs=some (.iface name d,p)):
  ∃u v f q,cs=[.iface u v]∧P.typeName? 3 u=some name∧DataW.trod (fun _=>()) P w 0 (fun _=>true) false f u v.cells.toList=some (d,q):=by
 cases f with
 | zero=>cases h
 | succ f=>
   unfold DataW.trod at h
   simp only[hu] at h
   split at h<;>rename_i heq<;>first
    | (cases heq;done)
    | (cases h;done)
    | skip
   ·rename_i u v
    split at h<;>try (cases h;done)
    rename_i nm hn
    simp only[Option.map_eq_some_iff,Prod.mk.injEq] at h
    obtain⟨x,h1,h2,h3⟩:=h
    cases h2
    exact⟨u,v,f,x.2,rfl,hn,h1⟩
theorem j2c {laid:List (String×DataW Unit)} {w:World} (h:laidMet P laid w) {nm name:String} {d:DataW Unit} (hx:(nm,DataW.iface name (.ptr d))∈laid) {g:Nat} {t:TypeId} {ty e:TypeId} {ms:Array (String×TypeId)} (hg:P.globalNamed nm=some g) (ht:(P.globals[g]?).map (·.type)=some t)
  (hu:P.underlying t=some (.interface ms)) (hty:∀u,P.typeName? 3 u=some name→u=ty) (hp:P.underlying ty=some (.pointer e)) (hc:0<P.cellsOf e):
  ∃b off tt,w.heap[g]?=some (.cells #[.iface ty (.pointer (some ⟨b,off,none⟩))] tt (0,0)):=by
 obtain⟨ps,h1,_,h3⟩:=h
 obtain⟨g',t',cs,fuel,p,k1,k2,k3,k4,k5⟩:=jm8 h1 _ hx
 rw[hg] at k1
 cases k1
 rw[ht] at k2
 cases k2
 obtain⟨u,v,f,q,e1,e2,e3⟩:=kdm hu k4
 obtain rfl:=hty u e2
 obtain⟨b,off,e4⟩:=kdl hp hc e3
 have hcs:cs=#[.iface u v]:=Array.toList_inj.1 e1
 subst hcs
 obtain⟨⟨c,tt,k6⟩,ok⟩:=h3 g 0 (k5 _ (by rw[MemPlace.mem_row];exact⟨0,by simp,rfl⟩))
 have k7:w.heap[g]?=some (.cells #[.iface u v] tt (0,0)):=by
  simp only[World.var?,hg,Option.bind_some,k6] at k3
  cases k3
  exact k6
 have ok:=ok u v (by simp[World.cell?,k7])
 have hv:v=.pointer (some ⟨b,off,none⟩):=by
  simp only[Value.okWide,hp] at ok
  cases v<;>simp[Value.cells] at e4<;>first | (rw[e4];done) | (exact absurd e4 (by simp)) | skip
  all_goals simp[Cell.okWide,Cell.ok,hp] at ok
 subst hv
 exact⟨b,off,tt,k7⟩
def j74 (w:World) (G:Nat) (ps:List Loc):RM:=fun b=>if b<G then kkt w G b else ps[b-G]?
theorem kaf {w:World} {G b:Nat} {ps:List Loc} (h:b<G):∃l,j74 w G ps b=some l∧l.blk=b∧l.base=0:=by
 unfold j74
 rw[if_pos h]
 exact khd h
theorem kae {w:World} {G n:Nat} {ps:List Loc} (h:G+ps.length≤n):∀b,n≤b→j74 w G ps b=none:=fun b hb=>by
 unfold j74
 rw[if_neg (by omega),List.getElem?_eq_none (by omega)]
theorem kji {laid ls:List (String×DataW Unit)} {w:World} (h:laidMet P laid w) (hs:∀x∈ls,x∈laid) {es ex:List (Nat×List AV)} (he:jx2 P ls=some es) (G:Nat) (ps:List Loc) (hG:∀e∈es,e.1<G)
  (hx:∀e∈ex,e.1<G∧∃cs t,w.heap[e.1]?=some (.cells cs t (0,0))∧VRs (j74 w G ps) e.2 cs.toList):HR (j74 w G ps) (jjx (ex++es)) w:=by
 have all:∀e∈ex++es,e.1<G∧∃cs t,w.heap[e.1]?=some (.cells cs t (0,0))∧VRs (j74 w G ps) e.2 cs.toList:=by
  intro e hm
  rcases List.mem_append.1 hm with hm | hm
  ·exact hx e hm
  ·obtain⟨x,h2,h3⟩:=jx1 he _ hm
   exact⟨hG e hm,kb1 h (hs x h2) h3 _⟩
 have lt:∀ {b:Nat},((jjx (ex++es)).get b).isSome→b<G:=by
  intro b hb
  obtain⟨k,hk⟩:=Option.isSome_iff_exists.1 hb
  obtain⟨as,h1,_⟩:=jkk hk
  exact(all _ h1).1
 have key:∀ {b:Nat} {l:Loc},b<G→j74 w G ps b=some l→l.blk=b:=by
  intro b l hb hl
  obtain⟨l',h1,h2,_⟩:=kaf (w:=w) (ps:=ps) hb
  rw[h1] at hl
  cases hl
  exact h2
 refine⟨fun b k l hk hl=>?_,fun b b' l l' i1 i2 e1 e2 e=>by left;rw[←key (lt i1) e1,←key (lt i2) e2,e]⟩
 obtain⟨as,h1,rfl⟩:=jkk hk
 obtain⟨hb,cs,t,h4,h5⟩:=all _ h1
 simp only at hb h4 h5
 have hl2:kkt w G b=some l:=by rw[←hl];unfold j74;rw[if_pos hb]
 unfold kkt at hl2
 rw[if_pos hb,h4] at hl2
 simp only[Option.some.injEq] at hl2
 subst hl2
 have h6:=h5.length
 simp only[Array.length_toList] at h6
 refine⟨cs,t,(0,0),h4,by simp;omega,Nat.le_refl _,fun i _ _=>by simp,fun i hi=>?_⟩
 obtain⟨a,ha⟩:∃a,as[i]?=some a:=⟨as[i],by simp[hi]⟩
 obtain⟨v,hv,hr⟩:=h5.get ha
 exact⟨a,v,by rw[jgk,if_pos (by omega)];exact ha,by simpa using hv,hr⟩
end W
end Go.Vm
