/-
  Folded lines: crimps, forwards, either way round; a line that is folded has a fold that can be taken back.
  Folded lines: a fold that can be taken back.
  Folded lines: folds put back, with their ranks; folds taken away.
  Ends: a strip folds exactly if its line can be folded.
  Ends: a pile is valid exactly if its ranks fold the line; the pile that is put together backwards is valid.
-/
import Derived.Test.YtldgdgacdcenkaaGreatDoorEFa
import Derived.Test.YtldgdgacdcenkaaGreatDoorEP
set_option linter.unusedSimpArgs false
set_option linter.unusedVariables false
set_option linter.unusedSectionVars false
set_option linter.unnecessarySimpa false
namespace Go.Vm.X.Fd
def Crm (e:Nat→Int) (c:Nat):Prop:=(e c≤e (c+2)∧e (c+2)<e (c+1)∧e (c+1)≤e (c+3))∨(e (c+3)≤e (c+1)∧e (c+1)<e (c+2)∧e (c+2)≤e c)
def jt3 (e:Nat→Int) (n:Nat) (up:Nat→Prop) (f:Nat→Int):Prop:=Inj f n∧NC e n f∧∀i,i+1<n→(f i<f (i+1)↔up i)
theorem jrq {e f:Nat→Int} {c n:Nat} (hc:c<n) (hz:Zig e (n+2)) (hL:e c≤e (c+2)∧e (c+2)<e (c+1)∧e (c+1)≤e (c+3))
  (mono:f c<f (c+1)∧f (c+1)<f (c+2)) (hi:Inj f (n+2)) (h:NC e (n+2) f):
  ∃g:Nat→Int,Inj g n∧NC (fun z=>e (sk c z)) n g∧∀k,k+1<n→(g k<g (k+1)↔f (oc c k)<f (oc c k+1)):=
 ⟨fun z=>cG e f c (sk c z),ke6 hc hL mono hi h,fun k hk=>(jrr hc hz hL mono hi h hk).1,fun k hk=>(jrr hc hz hL mono hi h hk).2⟩
theorem j3s {a b:Int} (h:a≠b):(-a < -b)↔¬(a<b):=by omega
theorem jrp {e f:Nat→Int} {c n:Nat} (hc:c<n) (hz:Zig e (n+2)) (hL:Crm e c)
  (mono:f c<f (c+1)∧f (c+1)<f (c+2)) (hi:Inj f (n+2)) (h:NC e (n+2) f):
  ∃g:Nat→Int,Inj g n∧NC (fun z=>e (sk c z)) n g∧∀k,k+1<n→(g k<g (k+1)↔f (oc c k)<f (oc c k+1)):=by
 rcases hL with hL | hL
 ·exact jrq hc hz hL mono hi h
 ·have hL':(fun k=> - e k) c≤(fun k=> - e k) (c+2)∧(fun k=> - e k) (c+2)< (fun k=> - e k) (c+1)∧(fun k=> - e k) (c+1)≤(fun k=> - e k) (c+3):=by simp only;omega
  obtain⟨g,g1,g2,g3⟩:=jrq hc (j2c hz) hL' mono hi (j3v hz h)
  have z':=j8g hc (j2c hz) hL'
  refine⟨g,g1,?_,g3⟩
  have:=j3v z' g2
  simpa using this
theorem j44 {e f:Nat→Int} {c n:Nat} {up:Nat→Prop} (hc:c<n) (hz:Zig e (n+2)) (hL:Crm e c) (hu:up c↔up (c+1)) (h:jt3 e (n+2) up f):
  ∃g,jt3 (fun z=>e (sk c z)) n (fun k=>up (oc c k)) g:=by
 obtain⟨h1,h2,h3⟩:=h
 have u1:=h3 c (by omega)
 have u2:=h3 (c+1) (by omega)
 simp only[show c+1+1=c+2 from rfl] at u2
 have d1:=h1.ne (i:=c) (j:=c+1) (by omega) (by omega) (by omega)
 have d2:=h1.ne (i:=c+1) (j:=c+2) (by omega) (by omega) (by omega)
 have ob:∀k,k+1<n→oc c k+1<n+2:=fun k hk=>by unfold oc;split<;>omega
 by_cases hup:up c
 ·obtain⟨g,g1,g2,g3⟩:=jrp hc hz hL ⟨u1.2 hup,u2.2 (hu.1 hup)⟩ h1 h2
  exact⟨g,g1,g2,fun k hk=>(g3 k hk).trans (h3 _ (ob k hk))⟩
 ·have m1:¬f c<f (c+1):=fun h=>hup (u1.1 h)
  have m2:¬f (c+1)<f (c+2):=fun h=>hup (hu.2 (u2.1 h))
  have hi':Inj (fun k=> - f k) (n+2):=fun i j hi hj he=>h1 i j hi hj (by simp only at he;omega)
  obtain⟨g,g1,g2,g3⟩:=jrp (f:=fun k=> - f k) hc hz hL ⟨by show-f c < - f (c+1);omega,by show-f (c+1) < - f (c+2);omega⟩ hi' (jsn h2)
  refine⟨fun k=> - g k,fun i j hi hj he=>g1 i j hi hj (by simp only at he;omega),jsn g2,fun k hk=>?_⟩
  have a:=g3 k hk
  have b:=g1.ne (i:=k) (j:=k+1) (by omega) hk (by omega)
  have c1:=h1.ne (i:=oc c k) (j:=oc c k+1) (by have:=ob k hk;omega) (ob k hk) (by omega)
  show-g k < - g (k+1)↔up (oc c k)
  rw[←h3 _ (ob k hk)]
  have a:g k<g (k+1)↔ - f (oc c k) < - f (oc c k+1):=a
  rw[j3s b,a,j3s c1,Classical.not_not]
def len (e:Nat→Int) (i:Nat):Int:=if e i<e (i+1) then e (i+1)-e i else e i-e (i+1)
theorem jyq {L:Nat→Int} {v:Int} (h0:L 0≠v):∀i,L i=v→∃p,0<p∧p≤i∧L (p-1)≠v∧∀j,p≤j→j≤i→L j=v
 | 0,h=>absurd h h0
 | i+1,h=>by
   by_cases hi:L i=v
   ·obtain⟨p,p1,p2,p3,p4⟩:=jyq h0 i hi
    refine⟨p,p1,by omega,p3,fun j q1 q2=>?_⟩
    by_cases hj:j=i+1
    ·rw[hj];exact h
    ·exact p4 j q1 (by omega)
   ·exact⟨i+1,by omega,by omega,by simpa using hi,fun j q1 q2=>by rw[show j=i+1 by omega];exact h⟩
theorem juh {L:Nat→Int} {v:Int} {n:Nat} (h0:L n≠v):∀k i,i+k=n→L i=v→∃q,i≤q∧q<n∧L (q+1)≠v∧∀j,i≤j→j≤q→L j=v
 | 0,i,e,h=>absurd (by rw[←e];exact h) h0
 | k+1,i,e,h=>by
   by_cases hi:L (i+1)=v
   ·obtain⟨q,q1,q2,q3,q4⟩:=juh h0 k (i+1) (by omega) hi
    refine⟨q,by omega,q2,q3,fun j a b=>?_⟩
    by_cases hj:j=i
    ·rw[hj];exact h
    ·exact q4 j (by omega) b
   ·exact⟨i,by omega,by omega,hi,fun j a b=>by rw[show j=i by omega];exact h⟩
theorem j68 {L:Nat→Int}:∀n,∃i,i≤n∧∀j,j≤n→L i≤L j
 | 0=>⟨0,by omega,fun j hj=>by rw[show j=0 by omega];omega⟩
 | n+1=>by
   obtain⟨i,h1,h2⟩:=j68 (L:=L) n
   by_cases h:L (n+1)<L i
   ·exact⟨n+1,by omega,fun j hj=>by
     by_cases e:j=n+1
     ·rw[e];omega
     ·have:=h2 j (by omega);omega⟩
   ·exact⟨i,by omega,fun j hj=>by
     by_cases e:j=n+1
     ·rw[e];omega
     ·exact h2 j (by omega)⟩
theorem j67 {L:Nat→Int} {p q:Nat} (h:p≤q):∃i,p≤i∧i≤q∧∀j,p≤j→j≤q→L i≤L j:=by
 obtain⟨i,h1,h2⟩:=j68 (L:=fun k=>L (p+k)) (q-p)
 exact⟨p+i,by omega,by omega,fun j a b=>by have:=h2 (j-p) (by omega);rw[show p+ (j-p)=j by omega] at this;exact this⟩
end Go.Vm.X.Fd
namespace Go.Vm.X.Fd
theorem j32 {e:Nat→Int} {n i:Nat} (hz:Zig e n) (hi:i+1<n) (h:len e i=len e (i+1)):e (i+2)=e i:=by
 have z:=hz.2 i hi
 have y:=hz.1 i (by omega)
 have y2:=hz.1 (i+1) hi
 unfold len at h
 simp only[show i+1+1=i+2 from rfl] at *
 split at h<;>split at h<;>omega
theorem j04 {e:Nat→Int} {n i:Nat} (hz:Zig e n) (hi:i+1<n) (h:len e (i+1)<len e i):thr e i (e (i+2)):=by
 have z:=hz.2 i hi
 have y:=hz.1 i (by omega)
 have y2:=hz.1 (i+1) hi
 unfold len at h
 unfold thr
 simp only[show i+1+1=i+2 from rfl] at *
 split at h<;>split at h<;>omega
theorem jxf {e:Nat→Int} {n i:Nat} (hz:Zig e n) (hi:i+1<n) (h:len e i<len e (i+1)):thr e (i+1) (e i):=by
 have z:=hz.2 i hi
 have y:=hz.1 i (by omega)
 have y2:=hz.1 (i+1) hi
 unfold len at h
 unfold thr
 simp only[show i+1+1=i+2 from rfl] at *
 split at h<;>split at h<;>omega
def gap (f:Nat→Int) (k:Nat):Int:=if f k<f (k+1) then f (k+1)-f k else f k-f (k+1)
theorem kev {f:Nat→Int} {k j:Nat} (h1:Bt f k j) (h2:Bt f k (j+1)):gap f j<gap f k:=by
 unfold Bt at h1 h2;unfold gap;split<;>split<;>omega
theorem kbs {f:Nat→Int} {k:Nat}:¬Bt f k k:=by unfold Bt;omega
theorem j8b {f:Nat→Int} {k:Nat}:¬Bt f k (k+1):=by unfold Bt;omega
section
variable {e f:Nat→Int} {n p q:Nat} {l:Int} (hz:Zig e n) (h:NC e n f) (hi:Inj f n) (p0:0<p) (pq:p≤q) (qn:q+1<n)
 (hl:∀j,p≤j→j≤q→len e j=l) (hp:l<len e (p-1)) (hq:l<len e (q+1))
include hz p0 pq qn hl
theorem pts:∀j,p≤j→j≤q→(e j=e p∧e (j+1)=e (p+1))∨(e j=e (p+1)∧e (j+1)=e p):=fun j h1=>by
 induction j with
 | zero=>omega
 | succ j ih=>
   intro h2
   by_cases hj:p=j+1
   ·subst hj;exact .inl ⟨rfl,rfl⟩
   ·have e2:=j32 hz (i:=j) (by omega) (by rw[hl j (by omega) (by omega),hl (j+1) h1 h2])
    simp only[show j+1+1=j+2 from rfl]
    rw[e2]
    rcases ih (by omega) (by omega) with⟨a,b⟩ | ⟨a,b⟩
    ·exact .inr ⟨b,a⟩
    ·exact .inl ⟨b,a⟩
include hp hq
theorem juf:∀k,p≤k+1→k≤q→(e (k+1)=e p∧(e k<e (k+1)↔e (p+1)<e p))∨(e (k+1)=e (p+1)∧(e k<e (k+1)↔e p<e (p+1))):=fun k h1 h2=>by
 by_cases hk:p=k+1
 ·left
  have z:=hz.2 k (by omega)
  subst hk
  exact⟨rfl,z⟩
 ·rcases pts hz p0 pq qn hl k (by omega) h2 with⟨a,b⟩ | ⟨a,b⟩
  ·right;rw[a,b];exact⟨rfl,Iff.rfl⟩
  ·left;rw[a,b];exact⟨rfl,Iff.rfl⟩
theorem kb9:thr e (p-1) (e (p+1)):=by
 have:=j04 hz (i:=p-1) (by omega) (by rw[show p-1+1=p by omega,hl p (Nat.le_refl _) pq];exact hp)
 rw[show p-1+2=p+1 by omega] at this;exact this
theorem kb8:thr e (q+1) (e q):=jxf hz qn (by rw[hl q pq (Nat.le_refl _)];exact hq)
theorem kg1:e p≠e (p+1):=hz.1 p (by omega)
include h hi
theorem j94 {k:Nat} (k1:p≤k+1) (k2:k≤q) (hk:∀j,p≤j+1→j≤q→gap f k≤gap f j):∀j,p≤j+1→j≤q+1→¬Bt f k j:=by
 intro j j1 j2 hb
 have sk:=juf hz p0 pq qn hl hp hq k k1 k2
 have hne:=kg1 hz p0 pq qn hl hp hq
 obtain⟨n1,n2⟩:=h k (by omega)
 have two:∀m,p≤m+1→m≤q→e (m+1)=e (k+1)→(Bt f k m∨Bt f k (m+1))→False:=fun m m1 m2 he hm=>by
  have sm:=juf hz p0 pq qn hl hp hq m m1 m2
  by_cases hmk:m=k
  ·subst hmk;exact hm.elim kbs j8b
  have:=n2 m (by omega) hmk he (by
   rcases sk with⟨a,b⟩ | ⟨a,b⟩<;>rcases sm with⟨c,d⟩ | ⟨c,d⟩
   ·exact d.trans b.symm
   ·rw[a,c] at he;exact absurd he.symm hne
   ·rw[a,c] at he;exact absurd he hne
   ·exact d.trans b.symm)
  have b1:Bt f k m:=hm.elim id this.2
  have:=kev b1 (this.1 b1)
  have:=hk m m1 m2
  omega
 by_cases c1:j+1=p
 ·have sj:=juf hz p0 pq qn hl hp hq j j1 (by omega)
  by_cases ht:e (j+1)=e (k+1)
  ·exact two j j1 (by omega) ht (.inl hb)
  ·have tp:=kb9 hz p0 pq qn hl hp hq
   rw[c1] at ht
   rcases sk with⟨a,b⟩ | ⟨a,b⟩
   ·exact ht a.symm
   ·rw[←a,show p-1=j by omega] at tp
    exact n1 j (by omega) tp hb
 by_cases c2:j=q+1
 ·by_cases ht:e (q+1)=e (k+1)
  ·exact two q (by omega) (Nat.le_refl _) ht (.inr (by rw[←c2];exact hb))
  ·have tq:=kb8 hz p0 pq qn hl hp hq
   have:e (k+1)=e q:=by
    rcases pts hz p0 pq qn hl q pq (Nat.le_refl _) with⟨a,b⟩ | ⟨a,b⟩<;>rcases sk with⟨c,d⟩ | ⟨c,d⟩
    ·rw[c,a]
    ·exact absurd (b.trans c.symm) ht
    ·exact absurd (b.trans c.symm) ht
    ·rw[c,a]
   rw[←this,←c2] at tq
   exact n1 j (by omega) tq hb
 ·by_cases ht:e (j+1)=e (k+1)
  ·exact two j j1 (by omega) ht (.inl hb)
  ·have:e (j-1+1)=e (k+1):=by
    rw[show j-1+1=j by omega]
    rcases pts hz p0 pq qn hl j (by omega) (by omega) with⟨a,b⟩ | ⟨a,b⟩<;>rcases sk with⟨c,d⟩ | ⟨c,d⟩
    ·rw[c,a]
    ·exact absurd (b.trans c.symm) ht
    ·exact absurd (b.trans c.symm) ht
    ·rw[c,a]
   exact two (j-1) (by omega) (by omega) this (.inr (by rw[show j-1+1=j by omega];exact hb))
theorem j9y (alt:∀c,p≤c+1→c+1≤q→¬(f c<f (c+1)↔f (c+1)<f (c+2))):False:=by
 obtain⟨k,k1,k2,hk⟩:=j67 (L:=gap f) (p:=p-1) (q:=q) (by omega)
 have no:=j94 hz h hi p0 pq qn hl hp hq (k:=k) (by omega) k2 fun j a b=>hk j (by omega) b
 have df:=fun i j hi' hj d=>hi.ne (i:=i) (j:=j) hi' hj d
 by_cases c1:k+1=p
 ·have tp:=kb9 hz p0 pq qn hl hp hq
  have a:=alt k (by omega) (by omega)
  have n1:=no (k+2) (by omega) (by omega)
  have b:=(h p (by omega)).1 (p-1) (by omega) tp
  rw[←c1] at b
  simp only[Nat.add_sub_cancel] at b
  have d1:=df k (k+1) (by omega) (by omega) (by omega)
  have d2:=df (k+1) (k+2) (by omega) (by omega) (by omega)
  have d3:=df k (k+2) (by omega) (by omega) (by omega)
  unfold Bt at n1 b
  simp only[show k+1+1=k+2 from rfl] at *
  omega
 obtain⟨m,rfl⟩:∃m,k=m+1:=⟨k-1,by omega⟩
 by_cases c2:m+1=q
 ·have tq:=kb8 hz p0 pq qn hl hp hq
  have a:=alt m (by omega) (by omega)
  have n1:=no m (by omega) (by omega)
  rw[←c2] at tq
  have b:=(h m (by omega)).1 (m+2) (by omega) tq
  have d1:=df m (m+1) (by omega) (by omega) (by omega)
  have d2:=df (m+1) (m+2) (by omega) (by omega) (by omega)
  have d3:=df m (m+2) (by omega) (by omega) (by omega)
  unfold Bt at n1 b
  simp only[show m+1+1=m+2 from rfl] at *
  omega
 ·have a:=alt m (by omega) (by omega)
  have a2:=alt (m+1) (by omega) (by omega)
  have n1:=no m (by omega) (by omega)
  have n2:=no (m+3) (by omega) (by omega)
  have s1:=juf hz p0 pq qn hl hp hq m (by omega) (by omega)
  have s2:=juf hz p0 pq qn hl hp hq (m+2) (by omega) (by omega)
  have e3:=j32 hz (i:=m+1) (by omega) (by rw[hl (m+1) (by omega) (by omega),hl (m+1+1) (by omega) (by omega)])
  simp only[show m+1+1=m+2 from rfl,show m+1+2=m+3 from rfl,show m+2+1=m+3 from rfl] at *
  have hne:=kg1 hz p0 pq qn hl hp hq
  have b:=(h m (by omega)).2 (m+2) (by omega) (by omega) e3 (by
   simp only[show m+2+1=m+3 from rfl]
   rcases s1 with⟨u,v⟩ | ⟨u,v⟩<;>rcases s2 with⟨c,d⟩ | ⟨c,d⟩
   ·exact d.trans v.symm
   ·rw[u,c] at e3;exact absurd e3.symm hne
   ·rw[u,c] at e3;exact absurd e3 hne
   ·exact d.trans v.symm)
  have d1:=df m (m+1) (by omega) (by omega) (by omega)
  have d2:=df (m+1) (m+2) (by omega) (by omega) (by omega)
  have d3:=df (m+2) (m+3) (by omega) (by omega) (by omega)
  have d4:=df m (m+2) (by omega) (by omega) (by omega)
  have d5:=df (m+1) (m+3) (by omega) (by omega) (by omega)
  unfold Bt at n1 n2 b
  simp only[show m+1+1=m+2 from rfl,show m+1+2=m+3 from rfl,show m+2+1=m+3 from rfl] at *
  omega
end
theorem j7i {e f:Nat→Int} {n:Nat} {up:Nat→Prop} (hz:Zig e n) (hn:2≤n) (h:jt3 e n up f):
  len e 0≤len e 1∨len e (n-1)≤len e (n-2)∨∃c,c+2<n∧len e (c+1)≤len e c∧len e (c+1)≤len e (c+2)∧(up c↔up (c+1)):=by
 apply Classical.byContradiction
 intro hno
 obtain⟨h1,h2,h3⟩:=h
 have a0:¬len e 0≤len e 1:=fun q=>hno (.inl q)
 have a1:¬len e (n-1)≤len e (n-2):=fun q=>hno (.inr (.inl q))
 obtain⟨i,i1,i2⟩:=j68 (L:=len e) (n-1)
 have l0:=i2 1 (by omega)
 have l1:=i2 (n-2) (by omega)
 obtain⟨p,p1,p2,p3,p4⟩:=jyq (L:=len e) (v:=len e i) (by omega) i rfl
 obtain⟨q,q1,q2,q3,q4⟩:=juh (L:=len e) (v:=len e i) (n:=n-1) (by omega) (n-1-i) i (by omega) rfl
 have hl:∀j,p≤j→j≤q→len e j=len e i:=fun j a b=>by
  by_cases c:j≤i
  ·exact p4 j a c
  ·exact q4 j (by omega) b
 have b1:=i2 (p-1) (by omega)
 have b2:=i2 (q+1) (by omega)
 refine j9y hz h2 h1 p1 (by omega) (by omega) hl (by omega) (by omega) fun c c1 c2 hc=>?_
 refine hno (.inr (.inr ⟨c,by omega,?_,?_,?_⟩))
 ·rw[hl (c+1) c1 c2];exact i2 c (by omega)
 ·rw[hl (c+1) c1 c2];exact i2 (c+2) (by omega)
 ·rw[←h3 c (by omega),←h3 (c+1) (by omega)];exact hc
end Go.Vm.X.Fd
namespace Go.Vm.X.Fd
theorem j0i {e e' f f':Nat→Int} {n:Nat} (he:∀k,k≤n→e k=e' k) (hf:∀k,k<n→f k=f' k) (h:NC e n f):NC e' n f':=fun i hi=>by
 obtain⟨h1,h2⟩:=h i hi
 have bt:∀j,j<n→(Bt f' i j↔Bt f i j):=fun j hj=>by unfold Bt;rw[hf i (by omega),hf (i+1) hi,hf j hj]
 refine⟨fun j hj ht=>?_,fun j hj hji q1 q2=>?_⟩
 ·rw[bt j hj]
  refine h1 j hj ?_
  unfold thr at ht ⊢
  rw[he j (by omega),he (j+1) (by omega),he (i+1) (by omega)];exact ht
 ·rw[bt j (by omega),bt (j+1) hj]
  refine h2 j hj hji ?_ ?_
  ·rw[he (j+1) (by omega),he (i+1) (by omega)];exact q1
  ·rw[he j (by omega),he (j+1) (by omega),he i (by omega),he (i+1) (by omega)];exact q2
theorem j3w {e e' f:Nat→Int} {n:Nat} {a:Int} (hz:Zig e n) (he:∀k,k≤n→e' k=a-e k) (h:NC e n f):NC e' n f:=fun i hi=>by
 obtain⟨h1,h2⟩:=h i hi
 refine⟨fun j hj ht=>h1 j hj ?_,fun j hj hji q1 q2=>h2 j hj hji ?_ ?_⟩
 ·unfold thr at ht ⊢
  rw[he j (by omega),he (j+1) (by omega),he (i+1) (by omega)] at ht;omega
 ·rw[he (j+1) (by omega),he (i+1) (by omega)] at q1;omega
 ·rw[he j (by omega),he (j+1) (by omega),he i (by omega),he (i+1) (by omega)] at q2
  have:=hz.1 j (by omega)
  have:=hz.1 i (by omega)
  omega
def fL (b:Bool) (f:Nat→Int) (x:Nat):Int:=if x=0 then -2*f 0+ (if b then -1 else 1) else -2*f (x-1)
def fR (b:Bool) (f:Nat→Int) (m x:Nat):Int:=if x=m+1 then 2*f m+ (if b then 1 else -1) else 2*f x
def fC (b:Bool) (f:Nat→Int) (c x:Nat):Int:=4*f (ph c x)+ (if x=c+1 then 1 else if x=(if b then c+2 else c) then 2 else 0)
theorem j4r {b:Bool} {f:Nat→Int} {x:Nat}:fL b f (x+1)= -2*f x:=by unfold fL;rw[if_neg (by omega)];rfl
theorem kez {b:Bool} {f:Nat→Int}:fL b f 0= -2*f 0+ (if b then -1 else 1):=if_pos rfl
theorem j4m {e e' f:Nat→Int} {m:Nat} {up up':Nat→Prop} {b:Bool} {a:Int} (hz:Zig e (m+2)) (hL:(e 2≤e 0∧e 0<e 1)∨(e 1<e 0∧e 0≤e 2)) (he:∀k,k≤m+1→e' k=a-e (k+1))
  (hb:b=true↔up 0) (hu:∀i,i+1<m+1→(up' i↔¬up (i+1))) (h:jt3 e' (m+1) up' f):jt3 e (m+2) up (fL b f):=by
 obtain⟨h1,h2,h3⟩:=h
 have hz':Zig (fun k=>e (k+1)) (m+1):=⟨fun i hi=>hz.1 (i+1) (by omega),fun i hi=>hz.2 (i+1) (by omega)⟩
 have hz2:Zig e' (m+1):=by
  refine⟨fun i hi=>?_,fun i hi=>?_⟩
  ·have:=hz'.1 i hi;rw[he i (by omega),he (i+1) (by omega)];simp only at this;omega
  ·have z:=hz'.2 i hi
   have y:=hz'.1 i (by omega)
   have y2:=hz'.1 (i+1) hi
   rw[he i (by omega),he (i+1) (by omega),he (i+2) (by omega)]
   simp only at z y y2
   simp only[show i+1+1=i+2 from rfl,show i+2+1=i+3 from rfl,show i+1+1+1=i+3 from rfl] at *
   omega
 have inj:Inj (fL b f) (m+2):=fun i j hi hj hq=>by
  match i,j with
  | 0,0=>rfl
  | 0,j+1=>rw[kez,j4r] at hq;split at hq<;>omega
  | i+1,0=>rw[kez,j4r] at hq;split at hq<;>omega
  | i+1,j+1=>rw[j4r,j4r] at hq;rw[h1 i j (by omega) (by omega) (by omega)]
 refine⟨inj,j97 inj hL (fun x x1 x2=>?_) ?_,fun i hi=>?_⟩
 ·obtain⟨y,rfl⟩:∃y,x=y+1:=⟨x-1,by omega⟩
  rw[j4r,kez,show(1:Nat)=0+1 from rfl,j4r]
  have:=h1.ne (i:=y) (j:=0) (by omega) (by omega) (by omega)
  split<;>omega
 ·have:=j3w (e':=fun k=>e (k+1)) (a:=a) hz2 (fun k hk=>by rw[he k hk];omega) h2
  have:=jsn this
  intro i hi
  obtain⟨q1,q2⟩:=this i hi
  have bt:∀i j,Bt (fun k=>fL b f (k+1)) i j↔Bt (fun k=> - f k) i j:=fun i j=>by unfold Bt;simp only[j4r];omega
  exact⟨fun j hj ht=>by rw[bt];exact q1 j hj ht,fun j hj hji a1 a2=>by rw[bt,bt];exact q2 j hj hji a1 a2⟩
 ·match i with
  | 0=>
    rw[←hb,show(0+1:Nat)=0+1 from rfl,j4r,kez]
    cases b<;>simp<;>omega
  | i+1=>
    rw[j4r,j4r]
    have a1:=h3 i (by omega)
    have a2:=hu i (by omega)
    have a3:=h1.ne (i:=i) (j:=i+1) (by omega) (by omega) (by omega)
    have:up (i+1)↔¬f i<f (i+1):=by rw[a1,a2,Classical.not_not]
    rw[this];omega
theorem jmq {b:Bool} {f:Nat→Int} {m x:Nat} (h:x≤m):fR b f m x=2*f x:=if_neg (by omega)
theorem j4q {b:Bool} {f:Nat→Int} {m:Nat}:fR b f m (m+1)=2*f m+ (if b then 1 else -1):=if_pos rfl
theorem j08 {e f:Nat→Int} {m:Nat} {up:Nat→Prop} {b:Bool} (hL:(e m≤e (m+2)∧e (m+2)<e (m+1))∨(e (m+1)<e (m+2)∧e (m+2)≤e m))
  (hb:b=true↔up m) (h:jt3 e (m+1) up f):jt3 e (m+2) up (fR b f m):=by
 obtain⟨h1,h2,h3⟩:=h
 have inj:Inj (fR b f m) (m+2):=fun i j hi hj hq=>by
  by_cases hi':i=m+1
  ·by_cases hj':j=m+1
   ·omega
   ·rw[hi',j4q,jmq (by omega)] at hq;split at hq<;>omega
  ·by_cases hj':j=m+1
   ·rw[hj',j4q,jmq (by omega)] at hq;split at hq<;>omega
   ·rw[jmq (by omega),jmq (by omega)] at hq;exact h1 i j (by omega) (by omega) (by omega)
 refine⟨inj,j6z inj hL (fun x hx=>?_) ?_,fun i hi=>?_⟩
 ·rw[jmq (by omega),j4q,jmq (Nat.le_refl _)]
  have:=h1.ne (i:=x) (j:=m) (by omega) (by omega) (by omega)
  split<;>omega
 ·intro i hi
  obtain⟨q1,q2⟩:=h2 i hi
  have bt:∀j,j<m+1→(Bt (fR b f m) i j↔Bt f i j):=fun j hj=>by unfold Bt;rw[jmq (by omega),jmq (by omega),jmq (by omega)];omega
  exact⟨fun j hj ht=>by rw[bt j hj];exact q1 j hj ht,fun j hj hji a1 a2=>by rw[bt j (by omega),bt (j+1) hj];exact q2 j hj hji a1 a2⟩
 ·by_cases him:i=m
  ·rw[him,j4q,jmq (Nat.le_refl _),←hb]
   cases b<;>simp<;>omega
  ·rw[jmq (by omega),jmq (by omega),←h3 i (by omega)];omega
theorem j09 {e e' f:Nat→Int} {c n:Nat} {up up':Nat→Prop} {b:Bool} (hc:c<n) (hz:Zig e (n+2)) (hL:Crm e c) (he:∀k,k≤n→e' k=e (sk c k))
  (hb:b=true↔up c) (hu:up c↔up (c+1)) (hu':∀i,i+1<n→(up' i↔up (oc c i))) (h:jt3 e' n up' f):jt3 e (n+2) up (fC b f c):=by
 obtain⟨h1,h2,h3⟩:=h
 have pl:∀x,x<n+2→ph c x<n:=fun x hx=>by unfold ph;split<;>(try split)<;>omega
 have v0:fC b f c c=4*f c+ (if b then 0 else 2):=by
  unfold fC;rw[show ph c c=c by simp[ph],if_neg (by omega)];cases b<;>simp
 have v1:fC b f c (c+1)=4*f c+1:=by
  unfold fC;rw[show ph c (c+1)=c by simp[ph],if_pos rfl]
 have v2:fC b f c (c+2)=4*f c+ (if b then 2 else 0):=by
  unfold fC;rw[show ph c (c+2)=c by simp[ph],if_neg (by omega)];cases b<;>simp
 have vb:∀x,4*f (ph c x)≤fC b f c x∧fC b f c x≤4*f (ph c x)+2:=fun x=>by unfold fC;split<;>(try split)<;>omega
 have cmp:∀x y,x<n+2→y<n+2→ph c x≠ph c y→(fC b f c x<fC b f c y↔f (ph c x)<f (ph c y)):=fun x y hx hy d=>by
  have:=h1.ne (pl x hx) (pl y hy) d
  have:=vb x
  have:=vb y
  omega
 have grp:∀x,ph c x=c→x=c∨x=c+1∨x=c+2:=fun x hx=>by unfold ph at hx;split at hx<;>(try split at hx)<;>omega
 have inj:Inj (fC b f c) (n+2):=fun i j hi hj hq=>by
  by_cases d:ph c i=ph c j
  ·by_cases g:ph c i=c
   ·have gi:=grp i g
    have gj:=grp j (by rw[←d];exact g)
    rcases gi with gi | gi | gi<;>rcases gj with gj | gj | gj<;>rw[gi,gj] at hq ⊢<;>simp only[v0,v1,v2] at hq<;>cases b<;>simp at hq<;>omega
   ·have o:∀x,x<n+2→ph c x≠c→(x<c∧ph c x=x)∨(c+2<x∧ph c x=x-2):=fun x hx hc'=>by
     unfold ph at hc' ⊢
     by_cases q1:x≤c
     ·rw[if_pos q1] at hc' ⊢;left;omega
     ·rw[if_neg q1] at hc' ⊢
      by_cases q2:x≤c+2
      ·rw[if_pos q2] at hc';omega
      ·rw[if_neg q2];right;omega
    have oi:=o i hi g
    have oj:=o j hj (by rw[←d];exact g)
    omega
  ·have:=h1.ne (pl i hi) (pl j hj) d
   have:=vb i
   have:=vb j
   omega
 refine⟨inj,j60 hc hz hL h1 cmp ?_ (j0i he (fun _ _=>rfl) h2),fun i hi=>?_⟩
 ·rw[v0,v1,v2];cases b<;>simp<;>omega
 ·by_cases i0:i=c
  ·rw[i0,v0,v1,←hb];cases b<;>simp<;>omega
  by_cases i1:i=c+1
  ·rw[i1,show c+1+1=c+2 from rfl,v1,v2,←hu,←hb];cases b<;>simp<;>omega
  have d:∀k,(i=oc c k)→k+1<n→(fC b f c i<fC b f c (i+1)↔up i):=fun k hk hkn=>by
   have p1:ph c i=k:=by rw[hk];unfold ph oc;split<;>(try split)<;>(try split)<;>omega
   have p2:ph c (i+1)=k+1:=by rw[hk];unfold ph oc;split<;>(try split)<;>(try split)<;>omega
   rw[cmp i (i+1) (by omega) hi (by rw[p1,p2];omega),p1,p2,h3 k hkn,hu' k hkn,hk]
  by_cases i2:i<c
  ·exact d i (j3n i2).symm (by omega)
  ·exact d (i-2) (by rw[j3o (by omega)];omega) (by omega)
theorem jxl {e f:Nat→Int} {n:Nat} {up:Nat→Prop} (h:jt3 e (n+1) up f):jt3 e n up f:=
 ⟨fun i j hi hj=>h.1 i j (by omega) (by omega),j3u h.2.1,fun i hi=>h.2.2 i (by omega)⟩
theorem jxk {e e' f:Nat→Int} {n:Nat} {up up':Nat→Prop} {a:Int} (hz:Zig e (n+1)) (he:∀k,k≤n→e' k=a-e (k+1)) (hu:∀i,i+1<n→(up' i↔¬up (i+1))) (h:jt3 e (n+1) up f):jt3 e' n up' fun k=> - f (k+1):=by
 obtain⟨h1,h2,h3⟩:=h
 have hz':Zig (fun k=>e (k+1)) n:=⟨fun i hi=>hz.1 (i+1) (by omega),fun i hi=>hz.2 (i+1) (by omega)⟩
 refine⟨fun i j hi hj hq=>by
  have hq: - f (i+1)= - f (j+1):=hq
  have:=h1 (i+1) (j+1) (by omega) (by omega) (by omega)
  omega,j3w hz' he (jsn (j3t h2)),fun i hi=>?_⟩
 rw[hu i hi,←h3 (i+1) (by omega)]
 have:=h1.ne (i:=i+1) (j:=i+2) (by omega) (by omega) (by omega)
 simp only[show i+1+1=i+2 from rfl]
 omega
end Go.Vm.X.Fd
namespace Go.Vm
namespace X
open W Go.Proofs.St Go.Vm.X.Fd
def jp8 (L:List Int):Nat→Int
 | 0=>0
 | k+1=>jp8 L k+if k%2=0 then L.getD k 0 else-L.getD k 0
def upK (K:List Int) (i:Nat):Prop:=(K.getD i 0=2↔i%2=0)
def Fol (s:Sp) (f:Nat→Int):Prop:=jt3 (jp8 s.1) s.1.length (upK s.2) f
def jdf (s:Sp):Prop:=∃f,Fol s f
theorem jmz {e e' f:Nat→Int} {n:Nat} {up up':Nat→Prop} (he:∀k,k≤n→e k=e' k) (hu:∀i,i+1<n→(up i↔up' i)) (h:jt3 e n up f):jt3 e' n up' f:=
 ⟨h.1,j0i he (fun _ _=>rfl) h.2.1,fun i hi=>(h.2.2 i hi).trans (hu i hi)⟩
theorem jdg (L:List Int) (k:Nat):jp8 L (k+1)=jp8 L k+if k%2=0 then L.getD k 0 else-L.getD k 0:=rfl
theorem jl7 {L M:List Int} {n:Nat} (h:∀k,k<n→L.getD k 0=M.getD k 0):∀k,k≤n→jp8 L k=jp8 M k
 | 0,_=>rfl
 | k+1,hk=>by rw[jdg,jdg,jl7 h k (by omega),h k (by omega)]
theorem jgu {L:List Int} {m k:Nat} (h:k<m):(L.take m).getD k 0=L.getD k 0:=by
 simp only[List.getD,List.getElem?_take];rw[if_pos h]
theorem jlm {L:List Int} {m k:Nat}:(L.drop m).getD k 0=L.getD (m+k) 0:=by
 simp only[List.getD,List.getElem?_drop]
theorem ge1 {L:List Int} (h:∀x∈L,1≤x) {i:Nat} (hi:i<L.length):1≤L.getD i 0:=h _ (jaw hi)
theorem jl0 {L:List Int} (h:∀x∈L,1≤x):Zig (jp8 L) L.length:=by
 refine⟨fun i hi=>?_,fun i hi=>?_⟩
 ·have:=ge1 h hi
  rw[jdg];split<;>omega
 ·have a:=ge1 h (i:=i) (by omega)
  have b:=ge1 h hi
  rw[show i+2=(i+1)+1 from rfl,jdg L (i+1),jdg L i]
  split<;>split<;>omega
theorem jmk {L:List Int} (h:∀x∈L,1≤x) {i:Nat} (hi:i<L.length):len (jp8 L) i=L.getD i 0:=by
 have:=ge1 h hi
 unfold len;rw[jdg];split<;>split<;>omega
theorem jl5 {L:List Int}:∀k,jp8 (L.drop 1) k=jp8 L 1-jp8 L (k+1)
 | 0=>by simp[jp8]
 | k+1=>by
   rw[jdg,jl5 k,jdg L (k+1),jlm,show 1+k=k+1 by omega]
   split<;>split<;>omega
theorem jt9 {K:List Int} (i:Nat):upK (K.drop 1) i↔¬upK K (i+1):=by
 unfold upK
 rw[jlm,show 1+i=i+1 by omega]
 by_cases h:K.getD (i+1) 0=2
 ·simp only[h,true_iff];omega
 ·simp only[h,false_iff];omega
theorem jtt {s:Sp} {c:Nat} (hl:c+2<s.1.length):(jnt s (c+1)).1.length=s.1.length-2:=by
 simp only[jnt,List.length_append,List.length_take,List.length_drop,List.length_singleton,Nat.add_sub_cancel];omega
theorem j5n {s:Sp} {c:Nat} (hl:c+2<s.1.length) (k:Nat):(jnt s (c+1)).1.getD k 0=if k<c then s.1.getD k 0 else if k=c then s.1.getD c 0+s.1.getD (c+2) 0-s.1.getD (c+1) 0 else s.1.getD (k+2) 0:=by
 unfold jnt
 simp only[Nat.add_sub_cancel]
 have jbj:(s.1.take c).length=c:=by rw[List.length_take];omega
 by_cases h1:k<c
 ·rw[if_pos h1,List.getD,List.getElem?_append_left (by omega),←List.getD,jgu h1]
 ·rw[if_neg h1,List.getD,List.getElem?_append_right (by omega),jbj]
  by_cases h2:k=c
  ·rw[if_pos h2,h2,Nat.sub_self];simp[jho]
  ·rw[if_neg h2,List.getElem?_append_right (by simp;omega),List.length_singleton,←List.getD,jlm]
   congr 1;omega
theorem j5m {s:Sp} {c:Nat} (hl:c+1<s.2.length) (k:Nat):(jnt s (c+1)).2.getD k 0=s.2.getD (oc c k) 0:=by
 unfold jnt
 simp only[Nat.add_sub_cancel]
 have jbj:(s.2.take c).length=c:=by rw[List.length_take];omega
 by_cases h1:k<c
 ·rw[List.getD,List.getElem?_append_left (by omega),←List.getD,jgu h1,j3n h1]
 ·rw[List.getD,List.getElem?_append_right (by omega),jbj,←List.getD,jlm,j3o (by omega)]
  congr 1;omega
theorem jl6 {s:Sp} {c:Nat} (hl:c+2<s.1.length):∀k,jp8 (jnt s (c+1)).1 k=jp8 s.1 (sk c k)
 | 0=>by rw[jc0 (by omega)];rfl
 | k+1=>by
   rw[jdg,jl6 hl k,j5n hl]
   by_cases h1:k<c
   ·rw[if_pos h1,jc0 (by omega),jc0 (by omega),jdg]
   rw[if_neg h1]
   by_cases h2:k=c
   ·subst h2
    rw[if_pos rfl,jc0 (by omega),jc8 (by omega),show k+1+2=((k+1)+1)+1 from rfl,jdg s.1 (k+1+1),jdg s.1 (k+1),jdg s.1 k]
    split<;>split<;>split<;>(try simp only[show k+1+1=k+2 from rfl])<;>omega
   ·rw[if_neg h2,jc8 (by omega),jc8 (by omega),show k+1+2=(k+2)+1 by omega,jdg s.1 (k+2)]
    split<;>split<;>omega
theorem jua {s:Sp} {c:Nat} (hl:c+1<s.2.length) (k:Nat):upK (jnt s (c+1)).2 k↔upK s.2 (oc c k):=by
 unfold upK
 rw[j5m hl]
 unfold oc
 split<;>omega
theorem j43 {L:List Int} (h:∀x∈L,1≤x) {c:Nat} (hl:c+2<L.length) (h1:L.getD (c+1) 0≤L.getD c 0) (h2:L.getD (c+1) 0≤L.getD (c+2) 0):Crm (jp8 L) c:=by
 have a:=ge1 h (i:=c) (by omega)
 have b:=ge1 h (i:=c+1) (by omega)
 unfold Crm
 rw[show c+3=((c+1)+1)+1 from rfl,show c+2=(c+1)+1 from rfl,jdg L (c+1+1),jdg L (c+1),jdg L c]
 simp only[show c+1+1=c+2 from rfl]
 split<;>split<;>split<;>omega
theorem jpc {s:Sp} (h:∀x∈s.2,x=1∨x=2) {c:Nat} (hl:c+1<s.2.length):s.2.getD c 0≠s.2.getD (c+1) 0↔(upK s.2 c↔upK s.2 (c+1)):=by
 have a:=h _ (jaw (L:=s.2) (i:=c) (by omega))
 have b:=h _ (jaw (L:=s.2) (i:=c+1) hl)
 unfold upK
 rcases a with a | a<;>rcases b with b | b<;>rw[a,b]<;>simp<;>omega
theorem jv1 {s:Sp} (hs:Good s) (hk:0<s.2.length) (h0:s.1.getD 0 0≤s.1.getD 1 0) {f:Nat→Int} (h:Fol (jz7 s) f) {b:Bool} (hb:b=true↔upK s.2 0):Fol s (fL b f):=by
 obtain⟨⟨⟨v1,v2,v3,v4⟩,v5⟩,v6⟩:=hs
 obtain⟨m,hm⟩:∃m,s.1.length=m+2:=⟨s.1.length-2,by omega⟩
 have p1:=fun x hx=>(v3 x hx).1
 have hz:=jl0 p1
 unfold Fol at h ⊢
 simp only[jz7,List.length_drop] at h
 rw[hm] at h hz ⊢
 have a:=ge1 p1 (i:=0) (by omega)
 have b:=ge1 p1 (i:=1) (by omega)
 refine j4m hz (.inl ?_) (fun k _=>jl5 k) hb (fun i _=>jt9 i) h
 have e0:jp8 s.1 0=0:=rfl
 have e1:jp8 s.1 1=s.1.getD 0 0:=by rw[jdg,if_pos rfl];exact Int.zero_add _
 have e2:jp8 s.1 2=jp8 s.1 1 + - s.1.getD 1 0:=by rw[jdg s.1 1,if_neg (by decide)]
 omega
theorem j7m {s:Sp} (hs:Good s) (hk:0<s.2.length) (h:jdf s):jdf (jz7 s):=by
 obtain⟨⟨⟨v1,v2,v3,v4⟩,v5⟩,v6⟩:=hs
 obtain⟨f,h⟩:=h
 obtain⟨m,hm⟩:∃m,s.1.length=m+2:=⟨s.1.length-2,by omega⟩
 have hz:=jl0 fun x hx=>(v3 x hx).1
 unfold Fol at h
 rw[hm] at h hz
 refine⟨fun k=> - f (k+1),?_⟩
 unfold Fol
 simp only[jz7,List.length_drop]
 rw[hm]
 exact jxk hz (fun k _=>jl5 k) (fun i _=>jt9 i) h
theorem jrw {s:Sp} (hs:Good s) (hk:0<s.2.length) (h0:s.1.getD s.2.length 0≤s.1.getD (s.2.length-1) 0) {f:Nat→Int} (h:Fol (jz6 s) f) {b:Bool} (hb:b=true↔upK s.2 (s.2.length-1)):Fol s (fR b f (s.2.length-1)):=by
 obtain⟨⟨⟨v1,v2,v3,v4⟩,v5⟩,v6⟩:=hs
 obtain⟨m,hm⟩:∃m,s.2.length=m+1:=⟨s.2.length-1,by omega⟩
 have p1:=fun x hx=>(v3 x hx).1
 unfold Fol at h ⊢
 simp only[jz6,List.length_take] at h
 rw[hm] at h h0 hb ⊢
 simp only[Nat.add_sub_cancel] at h h0 hb ⊢
 rw[show min (m+1) s.1.length=m+1 by omega] at h
 rw[show s.1.length=m+2 by omega]
 have a:=ge1 p1 (i:=m) (by omega)
 have b:=ge1 p1 (i:=m+1) (by omega)
 refine j08 ?_ hb (jmz (jl7 fun k hk=>jgu hk) (fun i hi=>by unfold upK;rw[jgu (by omega)]) h)
 rw[show m+2=(m+1)+1 from rfl,jdg s.1 (m+1),jdg s.1 m]
 split<;>split<;>omega
theorem j4i {s:Sp} (hs:Good s) (hk:0<s.2.length) (h:jdf s):jdf (jz6 s):=by
 obtain⟨⟨⟨v1,v2,v3,v4⟩,v5⟩,v6⟩:=hs
 obtain⟨f,h⟩:=h
 obtain⟨m,hm⟩:∃m,s.2.length=m+1:=⟨s.2.length-1,by omega⟩
 unfold Fol at h
 rw[show s.1.length=m+1+1 by omega] at h
 refine⟨f,?_⟩
 unfold Fol
 simp only[jz6,List.length_take,hm,Nat.add_sub_cancel]
 rw[show min (m+1) s.1.length=m+1 by omega]
 exact jmz (fun k hk=>(jl7 (fun k hk=>jgu hk) k hk).symm) (fun i hi=>by unfold upK;rw[jgu (by omega)]) (jxl h)
theorem jrx {s:Sp} (hs:Good s) {c:Nat} (hc:c+1<s.2.length) (h1:s.1.getD (c+1) 0≤s.1.getD c 0) (h2:s.1.getD (c+1) 0≤s.1.getD (c+2) 0) (hk:s.2.getD c 0≠s.2.getD (c+1) 0)
  {f:Nat→Int} (h:Fol (jnt s (c+1)) f) {b:Bool} (hb:b=true↔upK s.2 c):Fol s (fC b f c):=by
 obtain⟨⟨⟨v1,v2,v3,v4⟩,v5⟩,v6⟩:=hs
 obtain⟨n,hn⟩:∃n,s.1.length=n+2:=⟨s.1.length-2,by omega⟩
 have p1:=fun x hx=>(v3 x hx).1
 have hz:=jl0 p1
 unfold Fol at h ⊢
 rw[jtt (by omega),hn,Nat.add_sub_cancel] at h
 rw[hn] at hz ⊢
 exact j09 (by omega) hz (j43 p1 (by omega) h1 h2) (fun k _=>jl6 (by omega) k) hb ((jpc v5 hc).1 hk) (fun i _=>jua hc i) h
theorem j4j {s:Sp} (hs:Good s) {c:Nat} (hc:c+1<s.2.length) (h1:s.1.getD (c+1) 0≤s.1.getD c 0) (h2:s.1.getD (c+1) 0≤s.1.getD (c+2) 0) (hk:s.2.getD c 0≠s.2.getD (c+1) 0)
  (h:jdf s):jdf (jnt s (c+1)):=by
 obtain⟨⟨⟨v1,v2,v3,v4⟩,v5⟩,v6⟩:=hs
 obtain⟨f,h⟩:=h
 obtain⟨n,hn⟩:∃n,s.1.length=n+2:=⟨s.1.length-2,by omega⟩
 have p1:=fun x hx=>(v3 x hx).1
 have hz:=jl0 p1
 unfold Fol at h
 rw[hn] at h hz
 obtain⟨g,hg⟩:=j44 (by omega) hz (j43 p1 (by omega) h1 h2) ((jpc v5 hc).1 hk) h
 refine⟨g,?_⟩
 unfold Fol
 rw[jtt (by omega),hn,Nat.add_sub_cancel]
 exact jmz (fun k _=>(jl6 (by omega) k).symm) (fun i _=>(jua hc i).symm) hg
theorem jr7 {s:Sp} (hs:Good s) {x:Int×Int} (hx:sok s x=true):jdf (aft s x)↔jdf s:=by
 obtain⟨k,at_⟩:=x
 have bb:∀p:Prop,∃b:Bool,b=true↔p:=fun p=>by
  by_cases h:p
  ·exact⟨true,by simp[h]⟩
  ·exact⟨false,by simp[h]⟩
 obtain⟨hk,g | g | ⟨g,g2,g3⟩⟩:=jbx hx
 ·simp only at g;subst g
  have e:aft s (1,at_)=jz7 s:=rfl
  simp[sok,lok] at hx
  rw[e]
  refine⟨fun⟨f,h⟩=>?_,j7m hs hk⟩
  obtain⟨b,hb⟩:=bb (upK s.2 0)
  exact⟨_,jv1 hs hk (by simpa[List.getD] using hx.2.2) h hb⟩
 ·simp only at g;subst g
  have e:aft s (2,at_)=jz6 s:=rfl
  simp[sok,rok] at hx
  rw[e]
  refine⟨fun⟨f,h⟩=>?_,j4i hs hk⟩
  obtain⟨b,hb⟩:=bb (upK s.2 (s.2.length-1))
  exact⟨_,jrw hs hk (by simpa[List.getD] using hx.2.2) h hb⟩
 ·simp only at g g2 g3;subst g
  obtain⟨c,rfl⟩:∃c:Nat,at_=(c:Int)+1:=⟨(at_-1).toNat,by omega⟩
  have e:aft s (3,(c:Int)+1)=jnt s (c+1):=by
   have:((c:Int)+1).toNat=c+1:=by omega
   simp[aft,this]
  have hx:cok s (c+1)=true:=by
   have:((c:Int)+1).toNat=c+1:=by omega
   unfold sok at hx
   simp only[this,show ¬((3:Int)=1) by omega,show ¬((3:Int)=2) by omega,if_false,if_true,Bool.and_eq_true] at hx
   exact hx.2
  simp only[cok,Bool.and_eq_true,decide_eq_true_eq,Nat.add_sub_cancel] at hx
  obtain⟨⟨⟨⟨-,x1⟩,x2⟩,x3⟩,x4⟩:=hx
  rw[e]
  refine⟨fun⟨f,h⟩=>?_,j4j hs x1 x2 x3 x4⟩
  obtain⟨b,hb⟩:=bb (upK s.2 c)
  exact⟨_,jrx hs x1 x2 x3 x4 h hb⟩
theorem jlc {s:Sp} {k:Nat} {i:Nat} (hk:k<3) (hi:i<s.1.length) (h:sok s ((k:Int)+1,(i:Int))=true):((k:Int)+1,(i:Int))∈ja1 s:=by
 obtain⟨rest,e⟩:=jl4 hk hi
 unfold ja1
 rw[e]
 exact List.mem_filter.2 ⟨List.mem_append.2 (.inr (List.mem_cons_self ..)),h⟩
theorem j2w {s:Sp} (hs:Good s) (hk:0<s.2.length) (h:jdf s):ja1 s≠[]:=by
 obtain⟨⟨⟨v1,v2,v3,v4⟩,v5⟩,v6⟩:=hs
 obtain⟨f,h⟩:=h
 have p1:=fun x hx=>(v3 x hx).1
 have ne:∀ {x:Int×Int},x∈ja1 s→ja1 s≠[]:=fun hx he=>by rw[he] at hx;cases hx
 rcases j7i (jl0 p1) (by omega) h with q | q | ⟨c,q0,q1,q2,q3⟩
 ·rw[jmk p1 (by omega),jmk p1 (by omega)] at q
  refine ne (jlc (k:=0) (i:=0) (by omega) (by omega) ?_)
  have:lok s=true:=by rw[lok,decide_eq_true hk,decide_eq_true q];rfl
  simp[sok,this]
 ·rw[jmk p1 (by omega),jmk p1 (by omega),show s.1.length-1=s.2.length by omega,show s.1.length-2=s.2.length-1 by omega] at q
  refine ne (jlc (k:=1) (i:=0) (by omega) (by omega) ?_)
  have:rok s=true:=by rw[rok,decide_eq_true hk,decide_eq_true q];rfl
  simp[sok,this]
 ·rw[jmk p1 (by omega),jmk p1 (by omega)] at q1 q2
  refine ne (jlc (k:=2) (i:=c+1) (by omega) (by omega) ?_)
  have:cok s (c+1)=true:=by
   rw[cok,Nat.add_sub_cancel,decide_eq_true (show 0<c+1 by omega),decide_eq_true (show c+1<s.2.length by omega),decide_eq_true q1,decide_eq_true q2,decide_eq_true ((jpc v5 (by omega)).2 q3)];rfl
  have e:((((c+1:Nat)):Int)).toNat=c+1:=Int.toNat_natCast _
  unfold sok
  simp only[e,this]
  simp;omega
theorem jpi {s:Sp} (hs:Good s):jdf s↔(jcx s).2.2.length=0:=by
 revert hs
 refine ji8 (P:=fun s=>Good s→(jdf s↔(jcx s).2.2.length=0)) ?_ ?_ s
 ·intro s e hs
  rw[jdj e]
  refine⟨fun h=>?_,fun h=>?_⟩
  ·by_cases hk:0<s.2.length
   ·exact absurd e (j2w hs hk h)
   ·simp only;omega
  ·have hl:=hs.len
   simp only at h
   refine⟨fun _=>0,?_⟩
   unfold Fol
   rw[show s.1.length=1 by omega]
   exact⟨fun i j hi hj _=>by omega,fun i hi=>absurd hi (by omega),fun i hi=>absurd hi (by omega)⟩
 ·intro s x t e ih hs
  rw[jey e,←jr7 hs (jay e)]
  exact ih (jeg hs (jay e))
end X
end Go.Vm
namespace Go.Vm
namespace X
open W Go.Proofs.St Go.Vm.X.Fd
theorem jyz (L:List Int):∀k,jp8 L k=eAt L k
 | 0=>rfl
 | k+1=>by
   rw[jdg,jyz L k]
   show _=eAt L k+L.getD k 0* (1-2* ((k:Int)%2))
   split
   ·rw[show(k:Int)%2=0 by omega];omega
   ·rw[show(k:Int)%2=1 by omega];omega
theorem kfc {s:List Int×List Int} (h:jd3 s) {k:Nat} (hk:k≤s.1.length):(endsL s.1).getD k 0=jp8 s.1 k:=by rw[khc h hk,jyz]
def nf (f:Int→Int) (k:Nat):Int:=f k
theorem jr2 {f:Int→Int} {i x:Nat}:Bet f (i:Int) (x:Int)↔Bt (nf f) i x:=by
 unfold Bet Bt nf
 rw[show((i:Int)+1)=((i+1:Nat):Int) by omega]
 generalize f i=a
 generalize f (i+1:Nat)=b
 generalize f x=c
 omega
theorem j2l {E:List Int} {e:Nat→Int} {j:Nat} {t:Int} (h0:E.getD j 0=e j) (h1:E.getD (j+1) 0=e (j+1)):thr e j t↔(frm E j<t∧t<too E j):=by
 unfold thr frm too
 rw[h0,h1]
 generalize e j=a
 generalize e (j+1)=b
 omega
theorem j7z {s:List Int×List Int} (h:jd3 s) {f:Int→Int}:¬jj1 (endsL s.1) s.1.length f↔NC (jp8 s.1) s.1.length (nf f):=by
 have E:=fun k (hk:k≤s.1.length)=>kfc h hk
 have z:=jl0 (L:=s.1) fun x hx=>(h.2.2.1 x hx).1
 constructor
 ·intro hc i hi
  refine⟨fun j hj ht hb=>hc ⟨i,by omega,by omega,.inl ⟨j,by omega,by omega,?_,?_,jr2.2 hb⟩⟩,fun j hj hji e1 e2=>Classical.byContradiction fun hn=>hc ⟨i,by omega,by omega,.inr ⟨j,by omega,by omega,by omega,?_,?_,?_⟩⟩⟩
  ·have:=(j2l (E j (by omega)) (E (j+1) (by omega))).1 ht
   rw[Int.toNat_natCast,Int.toNat_natCast,E (i+1) (by omega)];exact this.1
  ·have:=(j2l (E j (by omega)) (E (j+1) (by omega))).1 ht
   rw[Int.toNat_natCast,Int.toNat_natCast,E (i+1) (by omega)];exact this.2
  ·rw[Int.toNat_natCast,Int.toNat_natCast,E (i+1) (by omega),E (j+1) (by omega)];exact e1
  ·rw[Int.toNat_natCast,Int.toNat_natCast,E (i+1) (by omega),E i (by omega),E j (by omega)]
   have:=z.1 i (by omega)
   have:=z.1 j (by omega)
   omega
  ·rw[show(j:Int)+1=((j+1:Nat):Int) by omega,jr2,jr2];exact hn
 ·rintro hn ⟨i,h0,h1,hc⟩
  obtain⟨i,rfl⟩:=Int.eq_ofNat_of_zero_le h0
  obtain⟨q1,q2⟩:=hn i (by omega)
  simp only[Int.toNat_natCast] at hc
  rw[E (i+1) (by omega),E i (by omega)] at hc
  rcases hc with⟨j,a1,a2,a3,a4,a5⟩ | ⟨j,a1,a2,a3,a4,a5,a6⟩
  ·obtain⟨j,rfl⟩:=Int.eq_ofNat_of_zero_le a1
   simp only[Int.toNat_natCast] at a3 a4
   exact q1 j (by omega) ((j2l (E j (by omega)) (E (j+1) (by omega))).2 ⟨a3,a4⟩) (jr2.1 a5)
  ·obtain⟨j,rfl⟩:=Int.eq_ofNat_of_zero_le a1
   simp only[Int.toNat_natCast] at a4 a5
   rw[E (j+1) (by omega)] at a4
   rw[E j (by omega)] at a5
   rw[show(j:Int)+1=((j+1:Nat):Int) by omega,jr2,jr2] at a6
   have:=z.1 i (by omega)
   have:=z.1 j (by omega)
   exact a6 (q2 j (by omega) (by omega) a4 (by omega))
theorem j8k {n:Nat} {p:List Int} (hp:Ord n p):Inj (nf (rkF p)) n:=fun i j hi hj h=>by
 have:=jsc (hp.mem hi) (hp.mem hj) h
 omega
theorem kae {s:Sp} (h:Dec s) {p:List Int} (hp:Ord s.1.length p):¬jt1 s.2 p↔∀i,i+1<s.1.length→(nf (rkF p) i<nf (rkF p) (i+1)↔upK s.2 i):=by
 have hl:=h.1.2.1
 have inj:=j8k hp
 have key:∀i:Nat,i<s.2.length→((s.2.getD (i:Int).toNat 0≠3∧s.2.getD (i:Int).toNat 0≠jpd (rkF p) i)↔¬(nf (rkF p) i<nf (rkF p) (i+1)↔upK s.2 i)):=fun i hi=>by
  have hk:=h.2 _ (jaw (L:=s.2) hi)
  have hne:=inj.ne (i:=i) (j:=i+1) (by omega) (by omega) (by omega)
  unfold jpd upK
  rw[Int.toNat_natCast]
  unfold nf at *
  rcases(by omega:i%2=0∨i%2=1) with e | e
  ·rw[show(i:Int)+i%2=(i:Int) by omega,show(i:Int)+1-i%2=((i+1:Nat):Int) by omega]
   generalize rkF p i=a at *
   generalize rkF p (i+1:Nat)=b at *
   split<;>omega
  ·rw[show(i:Int)+i%2=((i+1:Nat):Int) by omega,show(i:Int)+1-i%2=(i:Int) by omega]
   generalize rkF p i=a at *
   generalize rkF p (i+1:Nat)=b at *
   split<;>omega
 constructor
 ·intro hk i hi
  refine Classical.byContradiction fun hn=>hk ⟨i,by omega,by omega,?_⟩
  exact(key i (by omega)).2 hn
 ·rintro hu ⟨i,h0,h1,h2⟩
  obtain⟨i,rfl⟩:=Int.eq_ofNat_of_zero_le h0
  exact(key i (by omega)).1 h2 (hu i (by omega))
theorem j4n {s:Sp} (h:Dec s) {p:List Int} (hp:Ord s.1.length p):j71 s p=0↔Fol s (nf (rkF p)):=by
 unfold j71 Fol jt3
 rw[←j7z h.1,←kae h hp]
 constructor
 ·intro hc
  by_cases a:jj1 (endsL s.1) s.1.length (rkF p)
  ·rw[if_pos a] at hc;omega
  ·rw[if_neg a] at hc
   by_cases b:jt1 s.2 p
   ·rw[if_pos b] at hc;omega
   ·exact⟨j8k hp,a,b⟩
 ·rintro ⟨-,a,b⟩
  rw[if_neg a,if_neg b]
theorem jt2 {e f g:Nat→Int} {n:Nat} {up:Nat→Prop} (hfg:∀i j,i<n→j<n→(f i<f j↔g i<g j)) (h:jt3 e n up f):jt3 e n up g:=by
 obtain⟨h1,h2,h3⟩:=h
 have bt:∀i x,i+1<n→x<n→(Bt f i x↔Bt g i x):=fun i x hi hx=>by
  unfold Bt
  rw[hfg i x (by omega) hx,hfg x (i+1) hx hi,hfg (i+1) x hi hx,hfg x i hx (by omega)]
 refine⟨fun i j hi hj he=>h1 i j hi hj ?_,fun i hi=>?_,fun i hi=>(hfg i (i+1) (by omega) hi).symm.trans (h3 i hi)⟩
 ·have:=hfg i j hi hj
  have:=hfg j i hj hi
  omega
 ·obtain⟨q1,q2⟩:=h2 i hi
  exact⟨fun j hj ht=>by rw[←bt i j hi hj];exact q1 j hj ht,fun j hj hji a1 a2=>by rw[←bt i j hi (by omega),←bt i (j+1) hi hj];exact q2 j hj hji a1 a2⟩
theorem j23 {n:Nat} {p:List Int} (hp:Ord n p) {F:Nat→Int} (hF:p.Pairwise fun a b=>F a.toNat<F b.toNat):∀i j,i<n→j<n→(F i<F j↔nf (rkF p) i<nf (rkF p) j):=fun i j hi hj=>by
 obtain⟨a1,a2,a3⟩:=jv2 (hp.mem hi)
 obtain⟨b1,b2,b3⟩:=jv2 (hp.mem hj)
 unfold nf
 rw[List.pairwise_iff_getElem] at hF
 have g:∀k (hk:k<p.length),p.getD k 0=p[k]:=fun k hk=>by rw[List.getD,List.getElem?_eq_getElem hk];rfl
 rw[g _ a1] at a2
 rw[g _ b1] at b2
 rcases(by omega:(rkF p i).toNat< (rkF p j).toNat∨(rkF p i).toNat=(rkF p j).toNat∨(rkF p j).toNat< (rkF p i).toNat) with q | q | q
 ·have:=hF _ _ a1 b1 q
  rw[a2,b2] at this
  simp only[Int.toNat_natCast] at this
  omega
 ·have:i=j:=by
   have:=jsc (hp.mem hi) (hp.mem hj) (by omega)
   omega
  subst this;omega
 ·have:=hF _ _ b1 a1 q
  rw[a2,b2] at this
  simp only[Int.toNat_natCast] at this
  omega
theorem j5o {s:Sp} {c:Nat}:abv s c=true↔upK s.2 c:=by
 unfold abv upK
 rw[beq_iff_eq,decide_eq_decide]
theorem j54 {s:Sp} (hs:Good s) {x:Int×Int} (hx:sok s x=true) {q:List Int} (hq:OrdP (aft s x).1.length q) (h:Fol (aft s x) (nf (rkF q))):Fol s (nf (rkF (jfe s x q))):=by
 have ho:Ord s.1.length (jfe s x q):=jyh hs hx hq
 obtain⟨k,at_⟩:=x
 have hl:=hs.len
 have hpw:=kco hq.nodup
 have qin:=hq.in
 obtain⟨hk,g | g | ⟨g,g2,g3⟩⟩:=jbx hx
 ·simp only at g;subst g
  have e:(aft s (1,at_)).1.length=s.2.length:=by simp only[aft,if_true,jz7,List.length_drop];omega
  rw[e] at hq qin
  simp[sok,lok] at hx
  have hf:=jv1 hs hk (by simpa[List.getD] using hx.2.2) h (j5o (s:=s) (c:=0))
  refine jt2 (j23 ho ?_) hf
  rw[jjs hk hq,List.pairwise_flatMap]
  have fs:∀x∈q,fL (abv s 0) (nf (rkF q)) (x+1).toNat= -2*rkF q x:=fun x hx=>by
   have:=qin x hx
   rw[show(x+1).toNat=x.toNat+1 by omega,j4r];unfold nf;rw[show((x.toNat:Nat):Int)=x by omega]
  have f0:fL (abv s 0) (nf (rkF q)) (0:Int).toNat= -2*rkF q 0+ (if abv s 0 then -1 else 1):=kez
  have cm:∀a,a∈jg5 q 0 1→∃x∈q,a=x+1:=fun a ha=>by
   obtain⟨x,hx,rfl⟩:=List.mem_map.1 ha
   exact⟨x,hx,if_pos (qin x hx).1⟩
  have gz:∀a,a∈jg5 q 0 1→∀z∈(if a=1 then(if abv s 0 then [0,a] else [a,0]) else [a]),(z=a∨(z=0∧a=1)):=fun a ha z hz=>by
   by_cases h1:a=1
   ·rw[if_pos h1] at hz
    cases hb:abv s 0 with
    | true=>rw[hb] at hz;simp at hz;omega
    | false=>rw[hb] at hz;simp at hz;omega
   ·rw[if_neg h1] at hz;simp at hz;omega
  refine⟨fun a ha=>?_,List.pairwise_reverse.2 ?_⟩
  ·obtain⟨x,hx,rfl⟩:=cm a (List.mem_reverse.1 ha)
   by_cases h1:x+1=1
   ·have x0:x=0:=by omega
    subst x0
    have:=fs 0 hx
    rw[if_pos h1]
    cases hb:abv s 0 with
    | true=>
      rw[hb] at f0 this
      simp only[if_true,List.pairwise_cons,List.mem_singleton,forall_eq,List.not_mem_nil,false_implies,implies_true,List.Pairwise.nil,and_true] at f0 ⊢
      omega
    | false=>
      rw[hb] at f0 this
      simp only[Bool.false_eq_true,if_false,List.pairwise_cons,List.mem_singleton,forall_eq,List.not_mem_nil,false_implies,implies_true,List.Pairwise.nil,and_true] at f0 ⊢
      omega
   ·rw[if_neg h1];exact List.pairwise_singleton ..
  ·unfold jg5
   rw[List.pairwise_map]
   refine hpw.imp_of_mem fun {a b} ha hb hab z hz w hw=>?_
   have hza:=gz _ (List.mem_map.2 ⟨b,hb,rfl⟩) z hz
   have hwa:=gz _ (List.mem_map.2 ⟨a,ha,rfl⟩) w hw
   rw[if_pos (qin a ha).1] at hwa
   rw[if_pos (qin b hb).1] at hza
   have fa:=fs a ha
   have fb:=fs b hb
   rcases hza with rfl | ⟨rfl,hb1⟩<;>rcases hwa with rfl | ⟨rfl,ha1⟩
   ·omega
   ·have:a=0:=by omega
    subst this
    split at f0<;>omega
   ·have:b=0:=by omega
    subst this
    split at f0<;>omega
   ·have e1:a=0:=by omega
    have e2:b=0:=by omega
    subst e1;subst e2;omega
 ·simp only at g;subst g
  have e:(aft s (2,at_)).1.length=s.2.length:=by simp only[aft,if_true,jz6,List.length_take,show ¬((2:Int)=1) by omega,if_false];omega
  rw[e] at hq qin
  simp[sok,rok] at hx
  have hf:=jrw hs hk (by simpa[List.getD] using hx.2.2) h (j5o (s:=s) (c:=s.2.length-1))
  refine jt2 (j23 ho ?_) hf
  rw[jhx hk hq,List.pairwise_flatMap]
  have fs:∀x∈q,fR (abv s (s.2.length-1)) (nf (rkF q)) (s.2.length-1) x.toNat=2*rkF q x:=fun x hx=>by
   have:=qin x hx
   rw[jmq (by omega)];unfold nf;rw[show((x.toNat:Nat):Int)=x by omega]
  have f0:fR (abv s (s.2.length-1)) (nf (rkF q)) (s.2.length-1) (s.2.length:Int).toNat=2*rkF q ((s.2.length:Int)-1)+ (if abv s (s.2.length-1) then 1 else -1):=by
   rw[show(s.2.length:Int).toNat=s.2.length-1+1 by omega,j4q];unfold nf;rw[show((s.2.length-1:Nat):Int)=(s.2.length:Int)-1 by omega]
  generalize hm:(s.2.length:Int)-1=m at *
  generalize hn:(s.2.length:Int)=n at *
  generalize abv s (s.2.length-1)=b at *
  have gz:∀a z,z∈(if a=m then(if b then [a,n] else [n,a]) else [a])→(z=a∨(z=n∧a=m)):=fun a z hz=>by
   by_cases h1:a=m
   ·rw[if_pos h1] at hz
    cases b<;>simp at hz<;>omega
   ·rw[if_neg h1] at hz;simp at hz;omega
  refine⟨fun a ha=>?_,?_⟩
  ·have fa:=fs a ha
   by_cases h1:a=m
   ·subst h1
    rw[if_pos rfl]
    cases b with
    | true=>
      simp only[if_true,List.pairwise_cons,List.mem_singleton,forall_eq,List.not_mem_nil,false_implies,implies_true,List.Pairwise.nil,and_true] at f0 fa ⊢
      omega
    | false=>
      simp only[Bool.false_eq_true,if_false,List.pairwise_cons,List.mem_singleton,forall_eq,List.not_mem_nil,false_implies,implies_true,List.Pairwise.nil,and_true] at f0 fa ⊢
      omega
   ·rw[if_neg h1];exact List.pairwise_singleton ..
  ·refine hpw.imp_of_mem fun {a c} ha hc hac z hz w hw=>?_
   have fa:=fs a ha
   have fc:=fs c hc
   rcases gz _ _ hz with rfl | ⟨rfl,ha1⟩<;>rcases gz _ _ hw with rfl | ⟨rfl,hc1⟩
   ·omega
   ·subst hc1;split at f0<;>omega
   ·subst ha1;split at f0<;>omega
   ·subst ha1;subst hc1;omega
 ·simp only at g g2 g3;subst g
  obtain⟨c,rfl⟩:∃c:Nat,at_=(c:Int)+1:=⟨(at_-1).toNat,by omega⟩
  have ec:aft s (3,(c:Int)+1)=jnt s (c+1):=by
   have:((c:Int)+1).toNat=c+1:=by omega
   simp[aft,this]
  have e:(aft s (3,(c:Int)+1)).1.length=s.1.length-2:=by rw[ec,jtt (by omega)]
  rw[e] at hq qin
  rw[ec] at h
  have hx:cok s (c+1)=true:=by
   have:((c:Int)+1).toNat=c+1:=by omega
   unfold sok at hx
   simp only[this,show ¬((3:Int)=1) by omega,show ¬((3:Int)=2) by omega,if_false,if_true,Bool.and_eq_true] at hx
   exact hx.2
  simp only[cok,Bool.and_eq_true,decide_eq_true_eq,Nat.add_sub_cancel] at hx
  obtain⟨⟨⟨⟨-,x1⟩,x2⟩,x3⟩,x4⟩:=hx
  have hf:=jrx hs x1 x2 x3 x4 h (j5o (s:=s) (c:=c))
  refine jt2 (j23 ho ?_) hf
  rw[jhy (by omega) (by omega) (by omega) hq,List.pairwise_flatMap]
  have fs:∀z k:Int,0≤z→k∈q→(ph c z.toNat:Int)=k→4*rkF q k≤fC (abv s c) (nf (rkF q)) c z.toNat∧fC (abv s c) (nf (rkF q)) c z.toNat≤4*rkF q k+2:=fun z k h0 hk hz=>by
   unfold fC nf
   rw[hz]
   split<;>(try split)<;>omega
  have gz:∀a∈q,∀z,z∈(if a=(c:Int) then(if abv s c then [a,a+1,a+2] else [a+2,a+1,a]) else [if(c:Int)+1≤a then a+2 else a])→0≤z∧(ph c z.toNat:Int)=a:=fun a ha z hz=>by
   have ha0:=qin a ha
   by_cases h1:a=c
   ·rw[if_pos h1] at hz
    have:z=a∨z=a+1∨z=a+2:=by
     cases hb:abv s c<;>rw[hb] at hz<;>simp at hz<;>omega
    refine⟨by omega,?_⟩
    unfold ph
    split<;>(try split)<;>omega
   ·rw[if_neg h1] at hz
    have hz:=List.mem_singleton.1 hz
    subst hz
    unfold ph
    split<;>split<;>(try split)<;>omega
  refine⟨fun a ha=>?_,?_⟩
  ·by_cases h1:a=c
   ·subst h1
    rw[if_pos rfl]
    have v0:fC (abv s c) (nf (rkF q)) c (c:Int).toNat=4*rkF q c+ (if abv s c then 0 else 2):=by
     unfold fC;rw[Int.toNat_natCast,show ph c c=c by simp[ph],if_neg (by omega)];unfold nf;cases abv s c<;>simp
    have v1:fC (abv s c) (nf (rkF q)) c ((c:Int)+1).toNat=4*rkF q c+1:=by
     unfold fC;rw[show((c:Int)+1).toNat=c+1 by omega,show ph c (c+1)=c by simp[ph],if_pos rfl];rfl
    have v2:fC (abv s c) (nf (rkF q)) c ((c:Int)+2).toNat=4*rkF q c+ (if abv s c then 2 else 0):=by
     unfold fC;rw[show((c:Int)+2).toNat=c+2 by omega,show ph c (c+2)=c by simp[ph],if_neg (by omega)];unfold nf;cases abv s c<;>simp
    generalize fC (abv s c) (nf (rkF q)) c=F at *
    cases hb:abv s c with
    | true=>
      rw[hb] at v0 v2
      simp only[if_true] at v0 v2 ⊢
      refine List.pairwise_cons.2 ⟨fun y hy=>?_,List.pairwise_cons.2 ⟨fun y hy=>?_,List.pairwise_singleton ..⟩⟩
      ·simp at hy;rcases hy with rfl | rfl<;>omega
      ·simp at hy;subst hy;omega
    | false=>
      rw[hb] at v0 v2
      simp only[Bool.false_eq_true,if_false] at v0 v2 ⊢
      refine List.pairwise_cons.2 ⟨fun y hy=>?_,List.pairwise_cons.2 ⟨fun y hy=>?_,List.pairwise_singleton ..⟩⟩
      ·simp at hy;rcases hy with rfl | rfl<;>omega
      ·simp at hy;subst hy;omega
   ·rw[if_neg h1];exact List.pairwise_singleton ..
  ·refine hpw.imp_of_mem fun {a d} ha hd hac z hz w hw=>?_
   have gza:=gz a ha z hz
   have gwd:=gz d hd w hw
   have fa:=fs z a gza.1 ha gza.2
   have fd:=fs w d gwd.1 hd gwd.2
   omega
theorem j6s {s:Sp} (hs:Good s) (hd:Done s):Fol s (nf (rkF (jff s))):=by
 revert hs hd
 refine ji8 (P:=fun s=>Good s→Done s→Fol s (nf (rkF (jff s)))) ?_ ?_ s
 ·intro s e hs hd
  unfold Done at hd
  rw[jdj e] at hd
  have hl:=hs.len
  simp only at hd
  unfold Fol
  rw[show s.1.length=1 by omega]
  exact⟨fun i j hi hj _=>by omega,fun i hi=>absurd hi (by omega),fun i hi=>absurd hi (by omega)⟩
 ·intro s x t e ih hs hd
  have hx:=jay e
  have ha:=jeg hs hx
  rw[ji5 e]
  exact j54 hs hx (jha ha (hd.cons e)) (ih ha (hd.cons e))
theorem jy0 {s:Sp} (hs:Good s) (hd:Done s):j71 s (jff s)=0:=(j4n hs.1 (jha hs hd)).2 (j6s hs hd)
theorem j7x {s:Sp} (hs:Good s):Done s↔∃p,Ord s.1.length p∧j71 s p=0:=
 ⟨fun hd=>⟨jff s,jha hs hd,jy0 hs hd⟩,fun⟨p,hp,hc⟩=>(jpi hs).1 ⟨_,(j4n hs.1 hp).1 hc⟩⟩
end X
end Go.Vm
