/-
  Folded lines: ranks in which nothing crosses; folded ends and crimps put back.
  Folded lines: mirrored; a crimp folded: the ranks of the rest.
  Folded lines: a crimp folded: nothing crosses.
  Folded lines: a crimp folded: what is left is folded.
  Folded lines: a crimp folded: what is left is folded (jho).
-/
import Derived.Test.YtldgdgacdcenkaaGreatDoorXG1
set_option linter.unusedSimpArgs false
set_option linter.unusedVariables false
set_option linter.unusedSectionVars false
set_option linter.unnecessarySimpa false
namespace Go.Vm.X.Fd
def thr (e:Nat→Int) (j:Nat) (t:Int):Prop:=(e j<t∧t<e (j+1))∨(e (j+1)<t∧t<e j)
def Bt (f:Nat→Int) (i x:Nat):Prop:=(f i<f x∧f x<f (i+1))∨(f (i+1)<f x∧f x<f i)
def NC (e:Nat→Int) (n:Nat) (f:Nat→Int):Prop:=∀i,i+1<n→(∀j,j<n→thr e j (e (i+1))→¬Bt f i j)∧
 ∀j,j+1<n→j≠i→e (j+1)=e (i+1)→(e j<e (j+1)↔e i<e (i+1))→(Bt f i j↔Bt f i (j+1))
def Inj (f:Nat→Int) (n:Nat):Prop:=∀i j,i<n→j<n→f i=f j→i=j
def Zig (e:Nat→Int) (n:Nat):Prop:=(∀i,i<n→e i≠e (i+1))∧∀i,i+1<n→(e i<e (i+1)↔e (i+2)<e (i+1))
theorem j4d {p q:Prop} (h1:¬p) (h2:¬q):p↔q:=⟨fun h=>absurd h h1,fun h=>absurd h h2⟩
theorem Inj.ne {f:Nat→Int} {n:Nat} (h:Inj f n) {i j:Nat} (hi:i<n) (hj:j<n) (d:i≠j):f i≠f j:=fun e=>d (h i j hi hj e)
theorem j6z {e f:Nat→Int} {m:Nat} (hi:Inj f (m+2)) (hL:(e m≤e (m+2)∧e (m+2)<e (m+1))∨(e (m+1)<e (m+2)∧e (m+2)≤e m))
  (adj:∀x,x<m→(f x<f (m+1)↔f x<f m)) (h:NC e (m+1) f):NC e (m+2) f:=by
 have no:∀x,x<m+2→¬Bt f m x:=fun x hx=>by
  unfold Bt
  by_cases h1:x=m
  ·subst h1;omega
  by_cases h2:x=m+1
  ·subst h2;omega
  have:=adj x (by omega)
  have:=hi.ne (i:=x) (j:=m) (by omega) (by omega) (by omega)
  omega
 have same:∀i,i+1<m→(Bt f i m↔Bt f i (m+1)):=fun i hi'=>by
  unfold Bt
  have a1:=adj i (by omega)
  have a2:=adj (i+1) hi'
  have b1:=hi.ne (i:=i) (j:=m) (by omega) (by omega) (by omega)
  have b2:=hi.ne (i:=i+1) (j:=m) (by omega) (by omega) (by omega)
  have b3:=hi.ne (i:=i) (j:=m+1) (by omega) (by omega) (by omega)
  have b4:=hi.ne (i:=i+1) (j:=m+1) (by omega) (by omega) (by omega)
  omega
 intro i hi1
 by_cases him:i=m
 ·subst him
  exact⟨fun j hj _=>no j hj,fun j hj _ _ _=>j4d (no j (by omega)) (no (j+1) (by omega))⟩
 obtain⟨h1,h2⟩:=h i (by omega)
 refine⟨fun j hj ht=>?_,fun j hj hji he hs=>?_⟩
 ·by_cases hjm:j=m+1
  ·subst hjm
   have hc:i+1≠m:=fun hc=>by unfold thr at ht;rw[hc] at ht;simp only[show m+1+1=m+2 from rfl] at ht;omega
   rw[←same i (by omega)]
   refine h1 m (by omega) ?_
   unfold thr at ht ⊢
   simp only[show m+1+1=m+2 from rfl] at ht
   omega
  ·exact h1 j (by omega) ht
 ·by_cases hjm:j=m
  ·subst hjm
   have hc:i+1≠j:=fun hc=>by rw[hc] at he;omega
   exact same i (by omega)
  ·exact h2 j (by omega) hji he hs
theorem j97 {e f:Nat→Int} {m:Nat} (hi:Inj f (m+2)) (hL:(e 2≤e 0∧e 0<e 1)∨(e 1<e 0∧e 0≤e 2))
  (adj:∀x,2≤x→x<m+2→(f x<f 0↔f x<f 1)) (h:NC (fun k=>e (k+1)) (m+1) fun k=>f (k+1)):NC e (m+2) f:=by
 have no:∀x,x<m+2→¬Bt f 0 x:=fun x hx=>by
  unfold Bt
  by_cases h1:x=0
  ·subst h1;omega
  by_cases h2:x=1
  ·subst h2;simp only[Nat.zero_add];omega
  have:=adj x (by omega) hx
  have:=hi.ne (i:=x) (j:=1) (by omega) (by omega) (by omega)
  simp only[Nat.zero_add]
  omega
 have same:∀i,2≤i→i+1<m+2→(Bt f i 1↔Bt f i 0):=fun i h2 hi'=>by
  unfold Bt
  have a1:=adj i h2 (by omega)
  have a2:=adj (i+1) (by omega) hi'
  have b1:=hi.ne (i:=i) (j:=0) (by omega) (by omega) (by omega)
  have b2:=hi.ne (i:=i+1) (j:=0) (by omega) (by omega) (by omega)
  have b3:=hi.ne (i:=i) (j:=1) (by omega) (by omega) (by omega)
  have b4:=hi.ne (i:=i+1) (j:=1) (by omega) (by omega) (by omega)
  omega
 intro i hi1
 by_cases hi0:i=0
 ·subst hi0
  exact⟨fun j hj _=>no j hj,fun j hj _ _ _=>j4d (no j (by omega)) (no (j+1) (by omega))⟩
 obtain⟨k,rfl⟩:∃k,i=k+1:=⟨i-1,by omega⟩
 obtain⟨h1,h2⟩:=h k (by omega)
 refine⟨fun j hj ht=>?_,fun j hj hji he hs=>?_⟩
 ·by_cases hj0:j=0
  ·subst hj0
   have hc:k+1≠1:=fun hc=>by unfold thr at ht;rw[hc] at ht;simp only[Nat.zero_add,Nat.reduceAdd] at ht;omega
   rw[←same (k+1) (by omega) (by omega)]
   refine h1 0 (by omega) ?_
   unfold thr at ht ⊢
   simp only[Nat.zero_add,Nat.reduceAdd] at ht ⊢
   omega
  ·obtain⟨l,rfl⟩:∃l,j=l+1:=⟨j-1,by omega⟩
   exact h1 l (by omega) ht
 ·by_cases hj0:j=0
  ·subst hj0
   have hc:k+1≠1:=fun hc=>by rw[hc] at he;simp only[Nat.zero_add,Nat.reduceAdd] at he;omega
   exact(same (k+1) (by omega) (by omega)).symm
  ·obtain⟨l,rfl⟩:∃l,j=l+1:=⟨j-1,by omega⟩
   exact h2 l (by omega) (by omega) he hs
def sk (c k:Nat):Nat:=if k≤c then k else k+2
def ph (c x:Nat):Nat:=if x≤c then x else if x≤c+2 then c else x-2
section
variable {e f f':Nat→Int} {c n:Nat} (hc:c<n) (hz:Zig e (n+2))
 (hL:(e c≤e (c+2)∧e (c+2)<e (c+1)∧e (c+1)≤e (c+3))∨(e (c+3)≤e (c+1)∧e (c+1)<e (c+2)∧e (c+2)≤e c))
theorem jc0 {c k:Nat} (h:k≤c):sk c k=k:=if_pos h
theorem jc8 {c k:Nat} (h:c<k):sk c k=k+2:=if_neg (by omega)
theorem j60 (hc:c<n) (hz:Zig e (n+2))
  (hL:(e c≤e (c+2)∧e (c+2)<e (c+1)∧e (c+1)≤e (c+3))∨(e (c+3)≤e (c+1)∧e (c+1)<e (c+2)∧e (c+2)≤e c))
  (hi:Inj f' n) (hcmp:∀x y,x<n+2→y<n+2→ph c x≠ph c y→(f x<f y↔f' (ph c x)<f' (ph c y)))
  (mono:(f c<f (c+1)∧f (c+1)<f (c+2))∨(f (c+2)<f (c+1)∧f (c+1)<f c))
  (h:NC (fun k=>e (sk c k)) n f'):NC e (n+2) f:=by
 have ne:∀x y,x<n+2→y<n+2→ph c x≠ph c y→f x≠f y:=fun x y hx hy d=>by
  have p:∀z,z<n+2→ph c z<n:=fun z hz=>by unfold ph;split<;>(try split)<;>omega
  have h1:=hcmp x y hx hy d
  have h2:=hcmp y x hy hx (Ne.symm d)
  have h3:=hi.ne (p x hx) (p y hy) d
  omega
 have out:∀x,x<n+2→x≠c→x≠c+1→x≠c+2→(f x<f c↔f x<f (c+1))∧(f x<f c↔f x<f (c+2))∧f x≠f c∧f x≠f (c+1)∧f x≠f (c+2):=fun x hx d0 d1 d2=>by
  have p0:ph c c=c:=by simp[ph]
  have p1:ph c (c+1)=c:=by simp[ph]
  have p2:ph c (c+2)=c:=by simp[ph]
  have px:ph c x≠c:=by unfold ph;split<;>(try split)<;>omega
  have h0:=hcmp x c hx (by omega) (by rw[p0];exact px)
  have h1:=hcmp x (c+1) hx (by omega) (by rw[p1];exact px)
  have h2:=hcmp x (c+2) hx (by omega) (by rw[p2];exact px)
  rw[p0] at h0;rw[p1] at h1;rw[p2] at h2
  exact⟨h0.trans h1.symm,h0.trans h2.symm,ne _ _ hx (by omega) (by rw[p0];exact px),ne _ _ hx (by omega) (by rw[p1];exact px),ne _ _ hx (by omega) (by rw[p2];exact px)⟩
 have no:∀k x,k=c∨k=c+1→x<n+2→¬Bt f k x:=fun k x hk hx=>by
  unfold Bt
  by_cases d0:x=c
  ·rcases hk with hk | hk<;>(rw[hk,d0];(try simp only[show c+1+1=c+2 from rfl]);omega)
  by_cases d1:x=c+1
  ·rcases hk with hk | hk<;>(rw[hk,d1];(try simp only[show c+1+1=c+2 from rfl]);omega)
  by_cases d2:x=c+2
  ·rcases hk with hk | hk<;>(rw[hk,d2];(try simp only[show c+1+1=c+2 from rfl]);omega)
  obtain⟨o1,o2,o3,o4,o5⟩:=out x hx d0 d1 d2
  rcases hk with hk | hk
  ·rw[hk];omega
  ·rw[hk];simp only[show c+1+1=c+2 from rfl];omega
 have cr:∀k,k+1<n+2→k≠c→k≠c+1→∃k',k'+1<n∧ph c k=k'∧ph c (k+1)=k'+1∧e (sk c (k'+1))=e (k+1)∧(e (sk c k')<e (sk c (k'+1))↔e k<e (k+1))∧e (sk c k')≠e (sk c (k'+1))∧(k=if k'<c then k' else k'+2):=fun k hk d0 d1=>by
  have zk:=hz.1 k (by omega)
  by_cases h1:k<c
  ·refine⟨k,by omega,by simp[ph];omega,by simp[ph];omega,by rw[jc0 (by omega)],by rw[jc0 (by omega),jc0 (by omega)],by rw[jc0 (by omega),jc0 (by omega)];exact zk,by rw[if_pos h1]⟩
  ·refine⟨k-2,by omega,?_,?_,?_,?_,?_,by rw[if_neg (by omega)];omega⟩
   ·unfold ph;split<;>(try split)<;>omega
   ·unfold ph;split<;>(try split)<;>omega
   ·rw[jc8 (by omega),show k-2+1+2=k+1 by omega]
   ·by_cases h2:k=c+2
    ·subst h2;simp only[Nat.add_sub_cancel];rw[jc0 (by omega),jc8 (by omega)];simp only[show c+1+2=c+3 from rfl,show c+2+1=c+3 from rfl];omega
    ·rw[jc8 (by omega),jc8 (by omega),show k-2+1+2=k+1 by omega,show k-2+2=k by omega]
   ·by_cases h2:k=c+2
    ·subst h2;simp only[Nat.add_sub_cancel];rw[jc0 (by omega),jc8 (by omega)];simp only[show c+1+2=c+3 from rfl];omega
    ·rw[jc8 (by omega),jc8 (by omega),show k-2+1+2=k+1 by omega,show k-2+2=k by omega];exact zk
 have plt:∀z,z<n+2→ph c z<n:=fun z hz=>by unfold ph;split<;>(try split)<;>omega
 have bt:∀k k' j,k+1<n+2→ph c k=k'→ph c (k+1)=k'+1→j<n+2→ph c j≠k'→ph c j≠k'+1→(Bt f k j↔Bt f' k' (ph c j)):=fun k k' j hk p0 p1 hj d0 d1=>by
  unfold Bt
  have a1:=hcmp k j (by omega) hj (by rw[p0];exact Ne.symm d0)
  have a2:=hcmp j k hj (by omega) (by rw[p0];exact d0)
  have a3:=hcmp (k+1) j hk hj (by rw[p1];exact Ne.symm d1)
  have a4:=hcmp j (k+1) hj hk (by rw[p1];exact d1)
  rw[p0] at a1 a2
  rw[p1] at a3 a4
  rw[a1,a2,a3,a4]
 have th:∀j t,j<n+2→thr e j t→thr (fun k=>e (sk c k)) (ph c j) t:=fun j t hj ht=>by
  unfold thr at ht ⊢
  simp only
  by_cases h1:j<c
  ·rw[show ph c j=j by simp[ph];omega,jc0 (by omega),jc0 (by omega)];exact ht
  by_cases h2:c+2<j
  ·rw[show ph c j=j-2 by unfold ph;rw[if_neg (by omega),if_neg (by omega)],jc8 (by omega),jc8 (by omega),show j-2+1+2=j+1 by omega,show j-2+2=j by omega];exact ht
  rw[show ph c j=c by unfold ph;split<;>(try split)<;>omega,jc0 (by omega),jc8 (by omega)]
  simp only[show c+1+2=c+3 from rfl]
  have:j=c∨j=c+1∨j=c+2:=by omega
  rcases this with rfl | rfl | rfl
  ·omega
  ·simp only[show c+1+1=c+2 from rfl] at ht;omega
  ·simp only[show c+2+1=c+3 from rfl] at ht;omega
 intro k hk
 by_cases hkc:k=c∨k=c+1
 ·exact⟨fun j hj _=>no k j hkc hj,fun j hj _ _ _=>j4d (no k j hkc (by omega)) (no k (j+1) hkc hj)⟩
 obtain⟨k',q1,p0,p1,q2,q3,q4,q5⟩:=cr k hk (by omega) (by omega)
 obtain⟨h1,h2⟩:=h k' q1
 simp only at h1 h2
 refine⟨fun j hj ht=>?_,fun j hj hji he hs=>?_⟩
 ·have ht':=th j _ hj ht
  rw[←q2] at ht'
  have d0:ph c j≠k':=fun d=>by rw[d] at ht';unfold thr at ht';simp only at ht';omega
  have d1:ph c j≠k'+1:=fun d=>by rw[d] at ht';unfold thr at ht';simp only at ht';omega
  rw[bt k k' j hk p0 p1 hj d0 d1]
  exact h1 _ (plt j hj) ht'
 ·by_cases hjc:j=c∨j=c+1
  ·have pj:ph c j=c:=by unfold ph;split<;>(try split)<;>omega
   have pj1:ph c (j+1)=c:=by unfold ph;split<;>(try split)<;>omega
   by_cases d0:c=k'
   ·have hk2:k=c+2:=by rw[q5,if_neg (by omega),d0]
    subst hk2
    have z2:=hz.2 (c+1) (by omega)
    simp only[show c+1+1=c+2 from rfl,show c+1+2=c+3 from rfl] at z2
    have hj':j=c:=by
     rcases hjc with h | h
     ·exact h
     ·subst h;simp only[show c+1+1=c+2 from rfl,show c+2+1=c+3 from rfl] at hs;omega
    subst hj'
    obtain⟨o1,o2,o3,o4,o5⟩:=out (j+3) (by omega) (by omega) (by omega) (by omega)
    unfold Bt
    simp only[show j+2+1=j+3 from rfl]
    omega
   ·by_cases d1:c=k'+1
    ·have hk2:k=k':=by rw[q5,if_pos (by omega)]
     subst hk2
     subst d1
     have z2:=hz.2 k (by omega)
     have hj':j=k+2:=by
      rcases hjc with h | h
      ·subst h;simp only[show k+1+1=k+2 from rfl] at hs;have:=hz.1 k (by omega);have:=hz.1 (k+1) (by omega);simp only[show k+1+1=k+2 from rfl] at this;omega
      ·exact h
     subst hj'
     obtain⟨o1,o2,o3,o4,o5⟩:=out k (by omega) (by omega) (by omega) (by omega)
     simp only[show k+1+1=k+2 from rfl,show k+1+2=k+3 from rfl] at o1 o2 o3 o4 o5 mono
     unfold Bt
     simp only[show k+2+1=k+3 from rfl]
     omega
    ·rw[bt k k' j hk p0 p1 (by omega) (by rw[pj];exact d0) (by rw[pj];exact d1),bt k k' (j+1) hk p0 p1 hj (by rw[pj1];exact d0) (by rw[pj1];exact d1),pj,pj1]
  ·obtain⟨j',r1,s0,s1,r2,r3,r4,r5⟩:=cr j hj (by omega) (by omega)
   have dd:j'≠k':=fun d=>hji (by rw[r5,q5,d])
   have d1:j'≠k'+1:=fun d=>by subst d;rw[r2,q2] at r4;exact r4 he.symm
   have d2:j'+1≠k':=fun d=>by subst d;rw[q2] at q4;rw[r2] at q4;exact q4 he
   rw[bt k k' j hk p0 p1 (by omega) (by rw[s0];exact dd) (by rw[s0];exact d1),bt k k' (j+1) hk p0 p1 hj (by rw[s1];exact d2) (by rw[s1];omega),s0,s1]
   exact h2 j' r1 dd (by rw[r2,q2];exact he) (r3.trans (hs.trans q3.symm))
end
end Go.Vm.X.Fd
namespace Go.Vm.X.Fd
theorem j5y {f:Nat→Int} {i x:Nat}:Bt (fun k=> - f k) i x↔Bt f i x:=by unfold Bt;simp only;omega
theorem jsn {e f:Nat→Int} {n:Nat} (h:NC e n f):NC e n fun k=> - f k:=fun i hi=>by
 obtain⟨h1,h2⟩:=h i hi
 exact⟨fun j hj ht=>by rw[j5y];exact h1 j hj ht,fun j hj hji he hs=>by rw[j5y,j5y];exact h2 j hj hji he hs⟩
theorem j3v {e f:Nat→Int} {n:Nat} (hz:Zig e n) (h:NC e n f):NC (fun k=> - e k) n f:=fun i hi=>by
 obtain⟨h1,h2⟩:=h i hi
 refine⟨fun j hj ht=>h1 j hj ?_,fun j hj hji he hs=>h2 j hj hji ?_ ?_⟩
 ·unfold thr at ht ⊢;simp only at ht;omega
 ·simp only at he;omega
 ·have:=hz.1 j (by omega)
  have:=hz.1 i (by omega)
  simp only at hs;omega
theorem j2c {e:Nat→Int} {n:Nat} (hz:Zig e n):Zig (fun k=> - e k) n:=
 ⟨fun i hi=>by have:=hz.1 i hi;simp only;omega,fun i hi=>by have:=hz.2 i hi;have:=hz.1 i (by omega);have:=hz.1 (i+1) hi;simp only[show i+1+1=i+2 from rfl] at this;simp only;omega⟩
theorem j3u {e f:Nat→Int} {n:Nat} (h:NC e (n+1) f):NC e n f:=fun i hi=>by
 obtain⟨h1,h2⟩:=h i (by omega)
 exact⟨fun j hj=>h1 j (by omega),fun j hj=>h2 j (by omega)⟩
theorem j3t {e f:Nat→Int} {n:Nat} (h:NC e (n+1) f):NC (fun k=>e (k+1)) n fun k=>f (k+1):=fun i hi=>by
 obtain⟨h1,h2⟩:=h (i+1) (by omega)
 exact⟨fun j hj=>h1 (j+1) (by omega),fun j hj hji=>h2 (j+1) (by omega) (by omega)⟩
def cG (e f:Nat→Int) (c j:Nat):Int:=
 if j=c then f (c+2) else if(f c<f j∧f j<f (c+1)∧e j≤e (c+1)∧e (j+1)≤e (c+1))∨(f (c+1)<f j∧f j<f (c+2)∧e j≤e (c+2)∧e (j+1)≤e (c+2))∨f (c+2)<f j then f j+ (f (c+2)-f c) else f j
def oc (c k:Nat):Nat:=if k<c then k else k+2
def hF (p:Int→Prop) [DecidablePred p] (D x:Int):Int:=x+if p x then D else 0
theorem j2b {p:Int→Prop} [DecidablePred p] {D x:Int}:(p x∧hF p D x=x+D)∨(¬p x∧hF p D x=x):=by
 unfold hF;by_cases h:p x
 ·left;exact⟨h,by rw[if_pos h]⟩
 ·right;exact⟨h,by rw[if_neg h];omega⟩
def ro (c r z:Nat):Nat:=if z=c then r else sk c z
def live (e:Nat→Int) (x:Nat) (w:Int):Prop:=(e x≤w∧w<e (x+1))∨(e (x+1)≤w∧w<e x)
section
variable {e f:Nat→Int} {c n:Nat} (hc:c<n) (hz:Zig e (n+2)) (hL:e c≤e (c+2)∧e (c+2)<e (c+1)∧e (c+1)≤e (c+3))
 (mono:f c<f (c+1)∧f (c+1)<f (c+2)) (hi:Inj f (n+2)) (h:NC e (n+2) f)
include hc hL mono hi h
theorem ke5 {x:Nat} (hx:x<n+2) (d0:x≠c) (d1:x≠c+1) (d2:x≠c+2) {w:Int} (hw:live e x w):
  (w<e (c+2)→cG e f c x=hF (fun y=>f c≤y) (f (c+2)-f c) (f x))∧(e (c+2)≤w→w<e (c+1)→cG e f c x=hF (fun y=>(f c≤y∧y<f (c+1))∨f (c+2)<y) (f (c+2)-f c) (f x))∧
  (e (c+2)≤w→w<e (c+1)→cG e f c x=hF (fun y=>(f c<y∧y<f (c+1))∨f (c+2)<y) (f (c+2)-f c) (f x))∧(e (c+1)≤w→cG e f c x=hF (fun y=>f (c+2)<y) (f (c+2)-f c) (f x)):=by
 have n0:=hi.ne hx (show c<n+2 by omega) d0
 have n1:=hi.ne hx (show c+1<n+2 by omega) d1
 have n2:=hi.ne hx (show c+2<n+2 by omega) d2
 have k1:=(h c (by omega)).1 x hx
 have k2:=(h (c+1) (by omega)).1 x hx
 simp only[show c+1+1=c+2 from rfl,Bt,thr] at k1 k2
 unfold live at hw
 unfold cG
 rw[if_neg d0]
 refine⟨fun h1=>?_,fun h1 h2=>?_,fun h1 h2=>?_,fun h1=>?_⟩
 all_goals
  unfold hF
  split
  ·rw[if_pos];omega
  ·rw[if_neg]
   ·omega
   ·omega
theorem ke6:Inj (fun z=>cG e f c (sk c z)) n:=by
 intro y z hy hz' he
 simp only at he
 have a:∀z,z<n→sk c z<n+2∧sk c z≠c+1∧sk c z≠c+2:=fun z hz=>by unfold sk;split<;>omega
 obtain⟨y1,y2,y3⟩:=a y hy
 obtain⟨z1,z2,z3⟩:=a z hz'
 have key:sk c y=sk c z:=by
  by_cases hyz:sk c y=sk c z
  ·exact hyz
  exfalso
  have nf:=hi.ne y1 z1 hyz
  by_cases hyc:sk c y=c
  ·have n0:=hi.ne z1 (show c<n+2 by omega) (by omega)
   have n2:=hi.ne z1 (show c+2<n+2 by omega) z3
   unfold cG at he
   rw[if_pos hyc,if_neg (by omega)] at he
   split at he<;>omega
  ·by_cases hzc:sk c z=c
   ·have n0:=hi.ne y1 (show c<n+2 by omega) (by omega)
    have n2:=hi.ne y1 (show c+2<n+2 by omega) y3
    unfold cG at he
    rw[if_neg hyc,if_pos hzc] at he
    split at he<;>omega
   ·have n0:=hi.ne z1 (show c<n+2 by omega) hzc
    have n1:=hi.ne z1 (show c+1<n+2 by omega) z2
    have n2:=hi.ne z1 (show c+2<n+2 by omega) z3
    have m0:=hi.ne y1 (show c<n+2 by omega) hyc
    have m1:=hi.ne y1 (show c+1<n+2 by omega) y2
    have m2:=hi.ne y1 (show c+2<n+2 by omega) y3
    unfold cG at he
    rw[if_neg hyc,if_neg hzc] at he
    split at he<;>split at he<;>omega
 unfold sk at key
 split at key<;>split at key<;>omega
end
end Go.Vm.X.Fd
namespace Go.Vm.X.Fd
theorem j56 {a d t w s:Int} (y1:a≠t) (y2:a<t↔d<t) (y3:t≠d) (hs:a<t↔s<t) (hw:(w=t∧t<s)∨(w=t-1∧s<t)):
  ((a≤w∧w<t)∨(t≤w∧w<a))∧((t≤w∧w<d)∨(d≤w∧w<t)):=by
 rcases hw with⟨rfl,hw⟩ | ⟨rfl,hw⟩<;>omega
theorem j59 {a b t w:Int} (h:(a<t∧t<b)∨(b<t∧t<a)) (hw:w=t∨w=t-1):(a≤w∧w<b)∨(b≤w∧w<a):=by omega
theorem j3n {c k:Nat} (h:k<c):oc c k=k:=if_pos h
theorem j3o {c k:Nat} (h:c≤k):oc c k=k+2:=if_neg (by omega)
section
variable {e f:Nat→Int} {c n:Nat} (hc:c<n) (hz:Zig e (n+2)) (hL:e c≤e (c+2)∧e (c+2)<e (c+1)∧e (c+1)≤e (c+3))
include hc hz hL
theorem j8g:Zig (fun z=>e (sk c z)) n:=by
 refine⟨fun i hi=>?_,fun i hi=>?_⟩
 ·have z1:=hz.1 i (by omega)
  have z2:=hz.1 (i+2) (by omega)
  simp only
  by_cases h1:i<c
  ·rw[jc0 (by omega),jc0 (by omega)];exact z1
  by_cases h2:i=c
  ·subst h2;rw[jc0 (by omega),jc8 (by omega)];simp only[show i+1+2=i+3 from rfl];omega
  ·rw[jc8 (by omega),jc8 (by omega)];exact z2
 ·have z1:=hz.2 i (by omega)
  have z2:=hz.2 (i+2) (by omega)
  simp only
  by_cases h1:i+1<c
  ·rw[jc0 (by omega),jc0 (by omega),jc0 (by omega)];exact z1
  by_cases h2:i+1=c
  ·subst h2
   rw[jc0 (by omega),jc0 (by omega),jc8 (by omega)]
   simp only[show i+1+1=i+2 from rfl,show i+1+2=i+3 from rfl,show i+1+3=i+4 from rfl,show i+2+2=i+4 from rfl] at *;omega
  by_cases h3:i=c
  ·subst h3
   rw[jc0 (by omega),jc8 (by omega),jc8 (by omega)]
   simp only[show i+1+2=i+3 from rfl,show i+2+2=i+4 from rfl,show i+2+1=i+3 from rfl] at *;omega
  ·rw[jc8 (by omega),jc8 (by omega),jc8 (by omega)];exact z2
theorem jsh {k:Nat} (hk:k+1<n):oc c k+1<n+2∧oc c k≠c∧oc c k≠c+1∧e (sk c (k+1))=e (oc c k+1)∧(e (sk c k)<e (sk c (k+1))↔e (oc c k)<e (oc c k+1)):=by
 by_cases h1:k<c
 ·rw[j3n h1,jc0 (by omega),jc0 (by omega)];exact⟨by omega,by omega,by omega,rfl,Iff.rfl⟩
 ·rw[j3o (by omega)]
  refine⟨by omega,by omega,by omega,by rw[jc8 (by omega)],?_⟩
  by_cases h2:k=c
  ·subst h2;rw[jc0 (by omega),jc8 (by omega)];simp only[show k+1+2=k+3 from rfl,show k+2+1=k+3 from rfl];omega
  ·rw[jc8 (by omega),jc8 (by omega),show k+1+2=k+2+1 by omega]
theorem region {g F:Nat→Int} {r k:Nat} {t w:Int} (hk:k+1<n) (ht:t=e (oc c k+1)) (hw:(w=t∧t<e (oc c k))∨(w=t-1∧e (oc c k)<t))
  (hv:∀z,z<n→live (fun z=>e (sk c z)) z w→g z=F (ro c r z)) (r1:k=c→r=c+2) (r2:k+1=c→r=c) (hr:r=c∨r=c+2) (hl1:∀l,l=c→e (c+3)=t→l+1<n→r=c+2) (hl2:∀l,l+1=c→e c=t→r=c)
  (nc1:∀j,j<n+2→j=r∨(j≠c∧j≠c+1∧j≠c+2)→thr e j t→¬Bt F (oc c k) j)
  (nc2:∀l,l+1<n+2→l≠c→l≠c+1→l≠oc c k→e (l+1)=t→(e l<e (l+1)↔e (oc c k)<e (oc c k+1))→(Bt F (oc c k) l↔Bt F (oc c k) (l+1)))
  (hth:e c<t→t<e (c+3)→thr e r t):
  g k=F (oc c k)∧g (k+1)=F (oc c k+1)∧(∀j,j<n→thr (fun z=>e (sk c z)) j (e (sk c (k+1)))→¬Bt g k j)∧
  ∀j,j+1<n→j≠k→e (sk c (j+1))=e (sk c (k+1))→(e (sk c j)<e (sk c (j+1))↔e (sk c k)<e (sk c (k+1)))→(Bt g k j↔Bt g k (j+1)):=by
 have z':=j8g hc hz hL
 obtain⟨o1,o2,o3,o4,o5⟩:=jsh hc hz hL hk
 have two:∀l,l+1<n→e (sk c (l+1))=t→(e (sk c l)<e (sk c (l+1))↔e (sk c k)<e (sk c (k+1)))→(l=c→r=c+2)→(l+1=c→r=c)→g l=F (oc c l)∧g (l+1)=F (oc c l+1):=fun l hl he hs q1 q2=>by
  have y1:=z'.1 l (by omega)
  have y2:=z'.2 l hl
  have y3:=z'.1 (l+1) hl
  have hs':=hs.trans o5
  simp only[show l+1+1=l+2 from rfl] at y1 y2 y3
  rw[he] at y1 y2 y3 hs'
  rw[←ht] at hs'
  obtain⟨l1,l2⟩:=j56 y1 y2 y3 hs' hw
  have v1:ro c r l=oc c l:=by
   by_cases h:l=c
   ·rw[ro,if_pos h,q1 h,j3o (by omega),h]
   ·rw[ro,if_neg h];unfold sk oc;split<;>split<;>omega
  have v2:ro c r (l+1)=oc c l+1:=by
   by_cases h:l+1=c
   ·rw[ro,if_pos h,q2 h,j3n (by omega)];omega
   ·rw[ro,if_neg h];unfold sk oc;split<;>split<;>omega
  constructor
  ·rw[←v1]
   refine hv l (by omega) ?_
   unfold live;simp only;rw[he];exact l1
  ·rw[←v2]
   refine hv (l+1) hl ?_
   unfold live;simp only[show l+1+1=l+2 from rfl];rw[he];exact l2
 obtain⟨g1,g2⟩:=two k hk (by rw[o4,ht]) Iff.rfl r1 r2
 refine⟨g1,g2,fun j hj hj2=>?_,fun j hj hjk he hs=>?_⟩
 ·rw[o4,←ht] at hj2
  have hb:Bt g k j↔Bt F (oc c k) (ro c r j):=by
   unfold Bt
   rw[g1,g2,hv j hj]
   unfold thr at hj2;unfold live;simp only at hj2 ⊢
   exact j59 hj2 (hw.imp (·.1) (·.1))
  rw[hb]
  by_cases hjc:j=c
  ·subst hjc
   rw[ro,if_pos rfl]
   refine nc1 r (by omega) (.inl rfl) (hth ?_ ?_)
   all_goals
    unfold thr at hj2;simp only at hj2
    rw[jc0 (by omega),jc8 (by omega)] at hj2
    simp only[show j+1+2=j+3 from rfl] at hj2
    omega
  ·rw[ro,if_neg hjc]
   have:thr e (sk c j) t:=by
    unfold thr at hj2 ⊢;simp only at hj2
    by_cases h:j<c
    ·rw[jc0 (by omega),jc0 (by omega)] at hj2;rw[jc0 (by omega)];exact hj2
    ·rw[jc8 (by omega),jc8 (by omega)] at hj2;rw[jc8 (by omega)];exact hj2
   exact nc1 _ (by unfold sk;split<;>omega) (.inr ⟨by unfold sk;split<;>omega,by unfold sk;split<;>omega,by unfold sk;split<;>omega⟩) this
 ·obtain⟨p1,p2,p3,p4,p5⟩:=jsh hc hz hL hj
  have hjt:e (sk c (j+1))=t:=by rw[he,o4,ht]
  obtain⟨j1,j2⟩:=two j hj hjt hs (fun q=>hl1 j q (by rw[←hjt,q,jc8 (by omega)]) hj) (fun q=>hl2 j q (by rw[←hjt,q,jc0 (by omega)]))
  have b1:Bt g k j↔Bt F (oc c k) (oc c j):=by unfold Bt;rw[g1,g2,j1]
  have b2:Bt g k (j+1)↔Bt F (oc c k) (oc c j+1):=by unfold Bt;rw[g1,g2,j2]
  rw[b1,b2]
  exact nc2 (oc c j) p1 p2 p3 (by unfold oc;split<;>split<;>omega) (by rw[←p4,hjt]) (p5.symm.trans (hs.trans o5))
end
section
variable {e f:Nat→Int} {c n:Nat} (hc:c<n) (hz:Zig e (n+2)) (hL:e c≤e (c+2)∧e (c+2)<e (c+1)∧e (c+1)≤e (c+3))
 (mono:f c<f (c+1)∧f (c+1)<f (c+2)) (hi:Inj f (n+2)) (h:NC e (n+2) f)
include hc hL mono hi h
theorem kci {r z:Nat} {w:Int} (hz:z<n) (hw:live (fun z=>e (sk c z)) z w):
  (w<e (c+2)→cG e f c (sk c z)=hF (fun y=>f c≤y) (f (c+2)-f c) (f (ro c c z)))∧(e (c+2)≤w→w<e (c+1)→cG e f c (sk c z)=hF (fun y=>(f c≤y∧y<f (c+1))∨f (c+2)<y) (f (c+2)-f c) (f (ro c c z)))∧
  (e (c+2)≤w→w<e (c+1)→cG e f c (sk c z)=hF (fun y=>(f c<y∧y<f (c+1))∨f (c+2)<y) (f (c+2)-f c) (f (ro c (c+2) z)))∧(e (c+1)≤w→cG e f c (sk c z)=hF (fun y=>f (c+2)<y) (f (c+2)-f c) (f (ro c (c+2) z))):=by
 by_cases h0:z=c
 ·have e0:cG e f c (sk c z)=f (c+2):=by rw[h0,jc0 (by omega),cG,if_pos rfl]
  rw[e0,ro,if_pos h0,ro,if_pos h0]
  unfold hF
  refine⟨fun _=>?_,fun _ _=>?_,fun _ _=>?_,fun _=>?_⟩
  ·rw[if_pos (by omega)];omega
  ·rw[if_pos (by omega)];omega
  ·rw[if_neg (by omega)];omega
  ·rw[if_neg (by omega)];omega
 ·rw[ro,if_neg h0,ro,if_neg h0]
  refine ke5 hc hL mono hi h (by unfold sk;split<;>omega) (by unfold sk;split<;>omega) (by unfold sk;split<;>omega) (by unfold sk;split<;>omega) ?_
  unfold live at hw ⊢
  simp only at hw
  by_cases h1:z<c
  ·rw[jc0 (by omega),jc0 (by omega)] at hw;rw[jc0 (by omega)];exact hw
  ·rw[jc8 (by omega),jc8 (by omega)] at hw;rw[jc8 (by omega)];exact hw
end
end Go.Vm.X.Fd
namespace Go.Vm.X.Fd
theorem jm0 {f:Nat→Int} {φ:Int→Int} (hφ:∀a b,a<b↔φ a<φ b) {i x:Nat}:Bt (fun k=>φ (f k)) i x↔Bt f i x:=by
 unfold Bt;simp only[←hφ]
theorem j7j {A D:Int} (hD:0<D) (a b:Int):a<b↔hF (fun y=>A≤y) D a<hF (fun y=>A≤y) D b:=by
 have:=j2b (p:=fun y=>A≤y) (D:=D) (x:=a)
 have:=j2b (p:=fun y=>A≤y) (D:=D) (x:=b)
 omega
theorem jzn {A D:Int} (hD:0<D) (a b:Int):a<b↔hF (fun y=>A<y) D a<hF (fun y=>A<y) D b:=by
 have:=j2b (p:=fun y=>A<y) (D:=D) (x:=a)
 have:=j2b (p:=fun y=>A<y) (D:=D) (x:=b)
 omega
section
variable {A B C a b x y:Int} (h1:A<B) (h2:B<C)
include h1 h2
theorem M3 (a1:a≠B) (a2:a≠C) (b1:b≠B) (b2:b≠C) (hb:(B<a∧a<C)↔(B<b∧b<C)):hF (fun y=>(A≤y∧y<B)∨C<y) (C-A) a<hF (fun y=>(A≤y∧y<B)∨C<y) (C-A) b↔a<b:=by
 have ca:=j2b (p:=fun y=>(A≤y∧y<B)∨C<y) (D:=C-A) (x:=a)
 have cb:=j2b (p:=fun y=>(A≤y∧y<B)∨C<y) (D:=C-A) (x:=b)
 generalize hF (fun y=>(A≤y∧y<B)∨C<y) (C-A) a=u at *
 generalize hF (fun y=>(A≤y∧y<B)∨C<y) (C-A) b=v at *
 rcases ca with⟨ca,rfl⟩ | ⟨ca,rfl⟩<;>rcases cb with⟨cb,rfl⟩ | ⟨cb,rfl⟩<;>omega
theorem M3' (a1:a≠B) (a2:a≠A) (b1:b≠B) (b2:b≠A) (hb:(A<a∧a<B)↔(A<b∧b<B)):hF (fun y=>(A<y∧y<B)∨C<y) (C-A) a<hF (fun y=>(A<y∧y<B)∨C<y) (C-A) b↔a<b:=by
 have ca:=j2b (p:=fun y=>(A<y∧y<B)∨C<y) (D:=C-A) (x:=a)
 have cb:=j2b (p:=fun y=>(A<y∧y<B)∨C<y) (D:=C-A) (x:=b)
 generalize hF (fun y=>(A<y∧y<B)∨C<y) (C-A) a=u at *
 generalize hF (fun y=>(A<y∧y<B)∨C<y) (C-A) b=v at *
 rcases ca with⟨ca,rfl⟩ | ⟨ca,rfl⟩<;>rcases cb with⟨cb,rfl⟩ | ⟨cb,rfl⟩<;>omega
theorem Msw (a1:a≠B) (a2:a≠C) (b1:b≠B) (b2:b≠C):hF (fun y=>(A≤y∧y<B)∨C<y) (C-A) a<hF (fun y=>(A≤y∧y<B)∨C<y) (C-A) b↔(¬((A≤a∧a<B)∧(B<b∧b<C))∧(((B<a∧a<C)∧(A≤b∧b<B))∨a<b)):=by
 have ca:=j2b (p:=fun y=>(A≤y∧y<B)∨C<y) (D:=C-A) (x:=a)
 have cb:=j2b (p:=fun y=>(A≤y∧y<B)∨C<y) (D:=C-A) (x:=b)
 generalize hF (fun y=>(A≤y∧y<B)∨C<y) (C-A) a=u at *
 generalize hF (fun y=>(A≤y∧y<B)∨C<y) (C-A) b=v at *
 rcases ca with⟨ca,rfl⟩ | ⟨ca,rfl⟩<;>rcases cb with⟨cb,rfl⟩ | ⟨cb,rfl⟩<;>omega
theorem j83 (a1:a≠B) (a2:a≠A) (b1:b≠B) (b2:b≠A):hF (fun y=>(A<y∧y<B)∨C<y) (C-A) a<hF (fun y=>(A<y∧y<B)∨C<y) (C-A) b↔(¬((A<a∧a<B)∧(B<b∧b≤C))∧(((B<a∧a≤C)∧(A<b∧b<B))∨a<b)):=by
 have ca:=j2b (p:=fun y=>(A<y∧y<B)∨C<y) (D:=C-A) (x:=a)
 have cb:=j2b (p:=fun y=>(A<y∧y<B)∨C<y) (D:=C-A) (x:=b)
 generalize hF (fun y=>(A<y∧y<B)∨C<y) (C-A) a=u at *
 generalize hF (fun y=>(A<y∧y<B)∨C<y) (C-A) b=v at *
 rcases ca with⟨ca,rfl⟩ | ⟨ca,rfl⟩<;>rcases cb with⟨cb,rfl⟩ | ⟨cb,rfl⟩<;>omega
theorem N1 (a1:a≠B) (a2:a≠C) (b1:b≠B) (b2:b≠C) (x1:x≠B) (x2:x≠C) (hb:(B<a∧a<C)↔(B<b∧b<C)) (hx:¬(B<x∧x<C)∨((A≤a∧a<B)↔(A≤b∧b<B))):
  ((hF (fun y=>(A≤y∧y<B)∨C<y) (C-A) a<hF (fun y=>(A≤y∧y<B)∨C<y) (C-A) x∧hF (fun y=>(A≤y∧y<B)∨C<y) (C-A) x<hF (fun y=>(A≤y∧y<B)∨C<y) (C-A) b)∨(hF (fun y=>(A≤y∧y<B)∨C<y) (C-A) b<hF (fun y=>(A≤y∧y<B)∨C<y) (C-A) x∧hF (fun y=>(A≤y∧y<B)∨C<y) (C-A) x<hF (fun y=>(A≤y∧y<B)∨C<y) (C-A) a))↔((a<x∧x<b)∨(b<x∧x<a)):=by
 rw[Msw h1 h2 a1 a2 x1 x2,Msw h1 h2 x1 x2 b1 b2,Msw h1 h2 b1 b2 x1 x2,Msw h1 h2 x1 x2 a1 a2]
 by_cases ha:B<a∧a<C
 ·have hb':=hb.1 ha
  clear hb hx
  by_cases hx':B<x∧x<C
  ·omega
  ·omega
 ·have hb':¬(B<b∧b<C):=fun h=>ha (hb.2 h)
  clear hb
  by_cases hx':B<x∧x<C
  ·have hx2:=hx.resolve_left (fun h=>h hx')
   clear hx
   by_cases hA:A≤a∧a<B
   ·have hB:=hx2.1 hA
    clear hx2;omega
   ·have hB:¬(A≤b∧b<B):=fun h=>hA (hx2.2 h)
    clear hx2;omega
  ·clear hx;omega
theorem N2 (a1:a≠B) (a2:a≠C) (b1:b≠B) (b2:b≠C) (x1:x≠B) (x2:x≠C) (ax:a≠x) (bx:b≠x) (ha:¬(B<a∧a<C)) (hb:¬(B<b∧b<C)) (hx:B<x∧x<C) (hab:¬((A≤a∧a<B)↔(A≤b∧b<B))):
  ((hF (fun y=>(A≤y∧y<B)∨C<y) (C-A) a<hF (fun y=>(A≤y∧y<B)∨C<y) (C-A) x∧hF (fun y=>(A≤y∧y<B)∨C<y) (C-A) x<hF (fun y=>(A≤y∧y<B)∨C<y) (C-A) b)∨(hF (fun y=>(A≤y∧y<B)∨C<y) (C-A) b<hF (fun y=>(A≤y∧y<B)∨C<y) (C-A) x∧hF (fun y=>(A≤y∧y<B)∨C<y) (C-A) x<hF (fun y=>(A≤y∧y<B)∨C<y) (C-A) a))↔¬((a<x∧x<b)∨(b<x∧x<a)):=by
 rw[Msw h1 h2 a1 a2 x1 x2,Msw h1 h2 x1 x2 b1 b2,Msw h1 h2 b1 b2 x1 x2,Msw h1 h2 x1 x2 a1 a2]
 by_cases hA:A≤a∧a<B
 ·have hB:¬(A≤b∧b<B):=fun h=>hab ⟨fun _=>h,fun _=>hA⟩
  clear hab;omega
 ·have hB:A≤b∧b<B:=Classical.byContradiction fun h=>hab ⟨fun q=>absurd q hA,fun q=>absurd q h⟩
  clear hab;omega
theorem M2 (a1:a≠B) (a2:a≠C) (b1:b≠B) (b2:b≠C) (x1:x≠B) (x2:x≠C) (y1:y≠B) (y2:y≠C) (ax:a≠x) (ay:a≠y) (bx:b≠x) (by_:b≠y)
  (hb:(B<a∧a<C)↔(B<b∧b<C)) (hx:(B<x∧x<C)↔(B<y∧y<C))
  (nb:((a<x∧x<b)∨(b<x∧x<a))↔((a<y∧y<b)∨(b<y∧y<a))):
  ((hF (fun y=>(A≤y∧y<B)∨C<y) (C-A) a<hF (fun y=>(A≤y∧y<B)∨C<y) (C-A) x∧hF (fun y=>(A≤y∧y<B)∨C<y) (C-A) x<hF (fun y=>(A≤y∧y<B)∨C<y) (C-A) b)∨(hF (fun y=>(A≤y∧y<B)∨C<y) (C-A) b<hF (fun y=>(A≤y∧y<B)∨C<y) (C-A) x∧hF (fun y=>(A≤y∧y<B)∨C<y) (C-A) x<hF (fun y=>(A≤y∧y<B)∨C<y) (C-A) a))↔((hF (fun y=>(A≤y∧y<B)∨C<y) (C-A) a<hF (fun y=>(A≤y∧y<B)∨C<y) (C-A) y∧hF (fun y=>(A≤y∧y<B)∨C<y) (C-A) y<hF (fun y=>(A≤y∧y<B)∨C<y) (C-A) b)∨(hF (fun y=>(A≤y∧y<B)∨C<y) (C-A) b<hF (fun y=>(A≤y∧y<B)∨C<y) (C-A) y∧hF (fun y=>(A≤y∧y<B)∨C<y) (C-A) y<hF (fun y=>(A≤y∧y<B)∨C<y) (C-A) a)):=by
 by_cases hx':B<x∧x<C
 ·have hy':=hx.1 hx'
  by_cases hab:(A≤a∧a<B)↔(A≤b∧b<B)
  ·rw[N1 h1 h2 a1 a2 b1 b2 x1 x2 hb (.inr hab),N1 h1 h2 a1 a2 b1 b2 y1 y2 hb (.inr hab)];exact nb
  ·by_cases ha:B<a∧a<C
   ·have hb':=hb.1 ha
    exact absurd ⟨fun _=>by omega,fun _=>by omega⟩ hab
   ·have hb':¬(B<b∧b<C):=fun h=>ha (hb.2 h)
    rw[N2 h1 h2 a1 a2 b1 b2 x1 x2 ax bx ha hb' hx' hab,N2 h1 h2 a1 a2 b1 b2 y1 y2 ay by_ ha hb' hy' hab,nb]
 ·have hy':¬(B<y∧y<C):=fun h=>hx' (hx.2 h)
  rw[N1 h1 h2 a1 a2 b1 b2 x1 x2 hb (.inl hx'),N1 h1 h2 a1 a2 b1 b2 y1 y2 hb (.inl hy')];exact nb
theorem N1' (a1:a≠B) (a2:a≠A) (b1:b≠B) (b2:b≠A) (x1:x≠B) (x2:x≠A) (hb:(A<a∧a<B)↔(A<b∧b<B)) (hx:¬(A<x∧x<B)∨((B<a∧a≤C)↔(B<b∧b≤C))):
  ((hF (fun y=>(A<y∧y<B)∨C<y) (C-A) a<hF (fun y=>(A<y∧y<B)∨C<y) (C-A) x∧hF (fun y=>(A<y∧y<B)∨C<y) (C-A) x<hF (fun y=>(A<y∧y<B)∨C<y) (C-A) b)∨(hF (fun y=>(A<y∧y<B)∨C<y) (C-A) b<hF (fun y=>(A<y∧y<B)∨C<y) (C-A) x∧hF (fun y=>(A<y∧y<B)∨C<y) (C-A) x<hF (fun y=>(A<y∧y<B)∨C<y) (C-A) a))↔((a<x∧x<b)∨(b<x∧x<a)):=by
 rw[j83 h1 h2 a1 a2 x1 x2,j83 h1 h2 x1 x2 b1 b2,j83 h1 h2 b1 b2 x1 x2,j83 h1 h2 x1 x2 a1 a2]
 by_cases ha:A<a∧a<B
 ·have hb':=hb.1 ha
  clear hb hx
  by_cases hx':A<x∧x<B
  ·omega
  ·omega
 ·have hb':¬(A<b∧b<B):=fun h=>ha (hb.2 h)
  clear hb
  by_cases hx':A<x∧x<B
  ·have hx2:=hx.resolve_left (fun h=>h hx')
   clear hx
   by_cases hA:B<a∧a≤C
   ·have hB:=hx2.1 hA
    clear hx2;omega
   ·have hB:¬(B<b∧b≤C):=fun h=>hA (hx2.2 h)
    clear hx2;omega
  ·clear hx;omega
theorem N2' (a1:a≠B) (a2:a≠A) (b1:b≠B) (b2:b≠A) (x1:x≠B) (x2:x≠A) (ax:a≠x) (bx:b≠x) (ha:¬(A<a∧a<B)) (hb:¬(A<b∧b<B)) (hx:A<x∧x<B) (hab:¬((B<a∧a≤C)↔(B<b∧b≤C))):
  ((hF (fun y=>(A<y∧y<B)∨C<y) (C-A) a<hF (fun y=>(A<y∧y<B)∨C<y) (C-A) x∧hF (fun y=>(A<y∧y<B)∨C<y) (C-A) x<hF (fun y=>(A<y∧y<B)∨C<y) (C-A) b)∨(hF (fun y=>(A<y∧y<B)∨C<y) (C-A) b<hF (fun y=>(A<y∧y<B)∨C<y) (C-A) x∧hF (fun y=>(A<y∧y<B)∨C<y) (C-A) x<hF (fun y=>(A<y∧y<B)∨C<y) (C-A) a))↔¬((a<x∧x<b)∨(b<x∧x<a)):=by
 rw[j83 h1 h2 a1 a2 x1 x2,j83 h1 h2 x1 x2 b1 b2,j83 h1 h2 b1 b2 x1 x2,j83 h1 h2 x1 x2 a1 a2]
 by_cases hA:B<a∧a≤C
 ·have hB:¬(B<b∧b≤C):=fun h=>hab ⟨fun _=>h,fun _=>hA⟩
  clear hab;omega
 ·have hB:B<b∧b≤C:=Classical.byContradiction fun h=>hab ⟨fun q=>absurd q hA,fun q=>absurd q h⟩
  clear hab;omega
theorem M2' (a1:a≠B) (a2:a≠A) (b1:b≠B) (b2:b≠A) (x1:x≠B) (x2:x≠A) (y1:y≠B) (y2:y≠A) (ax:a≠x) (ay:a≠y) (bx:b≠x) (by_:b≠y)
  (hb:(A<a∧a<B)↔(A<b∧b<B)) (hx:(A<x∧x<B)↔(A<y∧y<B))
  (nb:((a<x∧x<b)∨(b<x∧x<a))↔((a<y∧y<b)∨(b<y∧y<a))):
  ((hF (fun y=>(A<y∧y<B)∨C<y) (C-A) a<hF (fun y=>(A<y∧y<B)∨C<y) (C-A) x∧hF (fun y=>(A<y∧y<B)∨C<y) (C-A) x<hF (fun y=>(A<y∧y<B)∨C<y) (C-A) b)∨(hF (fun y=>(A<y∧y<B)∨C<y) (C-A) b<hF (fun y=>(A<y∧y<B)∨C<y) (C-A) x∧hF (fun y=>(A<y∧y<B)∨C<y) (C-A) x<hF (fun y=>(A<y∧y<B)∨C<y) (C-A) a))↔((hF (fun y=>(A<y∧y<B)∨C<y) (C-A) a<hF (fun y=>(A<y∧y<B)∨C<y) (C-A) y∧hF (fun y=>(A<y∧y<B)∨C<y) (C-A) y<hF (fun y=>(A<y∧y<B)∨C<y) (C-A) b)∨(hF (fun y=>(A<y∧y<B)∨C<y) (C-A) b<hF (fun y=>(A<y∧y<B)∨C<y) (C-A) y∧hF (fun y=>(A<y∧y<B)∨C<y) (C-A) y<hF (fun y=>(A<y∧y<B)∨C<y) (C-A) a)):=by
 by_cases hx':A<x∧x<B
 ·have hy':=hx.1 hx'
  by_cases hab:(B<a∧a≤C)↔(B<b∧b≤C)
  ·rw[N1' h1 h2 a1 a2 b1 b2 x1 x2 hb (.inr hab),N1' h1 h2 a1 a2 b1 b2 y1 y2 hb (.inr hab)];exact nb
  ·by_cases ha:A<a∧a<B
   ·have hb':=hb.1 ha
    exact absurd ⟨fun _=>by omega,fun _=>by omega⟩ hab
   ·have hb':¬(A<b∧b<B):=fun h=>ha (hb.2 h)
    rw[N2' h1 h2 a1 a2 b1 b2 x1 x2 ax bx ha hb' hx' hab,N2' h1 h2 a1 a2 b1 b2 y1 y2 ay by_ ha hb' hy' hab,nb]
 ·have hy':¬(A<y∧y<B):=fun h=>hx' (hx.2 h)
  rw[N1' h1 h2 a1 a2 b1 b2 x1 x2 hb (.inl hx'),N1' h1 h2 a1 a2 b1 b2 y1 y2 hb (.inl hy')];exact nb
end
end Go.Vm.X.Fd
namespace Go.Vm.X.Fd
section
variable {e f:Nat→Int} {c n:Nat} (hc:c<n) (hz:Zig e (n+2)) (hL:e c≤e (c+2)∧e (c+2)<e (c+1)∧e (c+1)≤e (c+3))
 (mono:f c<f (c+1)∧f (c+1)<f (c+2)) (hi:Inj f (n+2)) (h:NC e (n+2) f)
include hc hL mono hi h
theorem j5b {x:Nat}:Bt f c x↔(f c<f x∧f x<f (c+1)):=by unfold Bt;omega
theorem j5c {x:Nat}:Bt f (c+1) x↔(f (c+1)<f x∧f x<f (c+2)):=by unfold Bt;simp only[show c+1+1=c+2 from rfl];omega
include hz
theorem jyi {l:Nat} (hl:l+1<n+2) (d0:l≠c) (d1:l≠c+1) (d2:l≠c+2) (w1:e (c+2)<e (l+1)∨(e (c+2)=e (l+1)∧e (l+1)<e l)) (w2:e (l+1)<e (c+1)):
  (f (c+1)<f l∧f l<f (c+2))↔(f (c+1)<f (l+1)∧f (l+1)<f (c+2)):=by
 rw[←j5c hc hL mono hi h,←j5c hc hL mono hi h]
 rcases w1 with w1 | ⟨w1,w3⟩
 ·have n1:=(h l (by omega)).1
  have p1:=n1 (c+1) (by omega) (by unfold thr;simp only[show c+1+1=c+2 from rfl];omega)
  have p2:=n1 (c+2) (by omega) (by unfold thr;simp only[show c+2+1=c+3 from rfl];omega)
  have q1:=hi.ne (i:=l) (j:=c+1) (by omega) (by omega) d1
  have q2:=hi.ne (i:=l) (j:=c+2) (by omega) (by omega) d2
  have q3:=hi.ne (i:=l+1) (j:=c+1) (by omega) (by omega) (by omega)
  have q4:=hi.ne (i:=l+1) (j:=c+2) (by omega) (by omega) (by omega)
  unfold Bt at p1 p2 ⊢
  simp only[show c+1+1=c+2 from rfl] at *
  omega
 ·exact(h (c+1) (by omega)).2 l (by omega) d1 (by rw[show c+1+1=c+2 from rfl];exact w1.symm) (by simp only[show c+1+1=c+2 from rfl];omega)
theorem jkx {l:Nat} (hl:l+1<n+2) (d0:l≠c) (d1:l≠c+1) (w:e (l+1)=e (c+1)) (w2:e l<e (l+1)):
  (f c<f l∧f l<f (c+1))↔(f c<f (l+1)∧f (l+1)<f (c+1)):=by
 rw[←j5b hc hL mono hi h,←j5b hc hL mono hi h]
 exact(h c (by omega)).2 l (by omega) d0 w (by omega)
set_option maxHeartbeats 1000000 in
theorem jrr {k:Nat} (hk:k+1<n):((∀j,j<n→thr (fun z=>e (sk c z)) j (e (sk c (k+1)))→¬Bt (fun z=>cG e f c (sk c z)) k j)∧
  ∀j,j+1<n→j≠k→e (sk c (j+1))=e (sk c (k+1))→(e (sk c j)<e (sk c (j+1))↔e (sk c k)<e (sk c (k+1)))→(Bt (fun z=>cG e f c (sk c z)) k j↔Bt (fun z=>cG e f c (sk c z)) k (j+1)))∧
  (cG e f c (sk c k)<cG e f c (sk c (k+1))↔f (oc c k)<f (oc c k+1)):=by
 obtain⟨o1,o2,o3,o4,o5⟩:=jsh hc hz hL hk
 have hne:=hz.1 (oc c k) (by omega)
 obtain⟨n1,n2⟩:=h (oc c k) (by omega)
 have kc:k=c→oc c k=c+2∧e (oc c k)<e (oc c k+1)∧e (c+1)≤e (oc c k+1):=fun q=>by
  by_cases hcc:k=c
  ·subst hcc;rw[j3o (Nat.le_refl _)];exact⟨rfl,by simp only[show k+2+1=k+3 from rfl];omega,by simp only[show k+2+1=k+3 from rfl];omega⟩
  ·exact absurd q hcc
 have kc1:k+1=c→e (oc c k+1)=e c:=fun q=>by rw[j3n (by omega),q]
 have hD:0<f (c+2)-f c:=by omega
 generalize hK:oc c k=K at *
 obtain⟨t,ht⟩:∃t,t=e (K+1):=⟨_,rfl⟩
 obtain⟨w,hw⟩:∃w,(w=t∧t<e K)∨(w=t-1∧e K<t):=by
  by_cases q:e K<t
  ·exact⟨t-1,.inr ⟨rfl,q⟩⟩
  ·exact⟨t,.inl ⟨rfl,by omega⟩⟩
 rw[←ht] at kc kc1 hne
 have fin:∀(F:Nat→Int) (r:Nat),(∀z,z<n→live (fun z=>e (sk c z)) z w→cG e f c (sk c z)=F (ro c r z))→(k=c→r=c+2)→(k+1=c→r=c)→(r=c∨r=c+2)→(∀l,l=c→e (c+3)=t→l+1<n→r=c+2)→(∀l,l+1=c→e c=t→r=c)→
   (∀j,j<n+2→j=r∨(j≠c∧j≠c+1∧j≠c+2)→thr e j t→¬Bt F K j)→
   (∀l,l+1<n+2→l≠c→l≠c+1→l≠K→e (l+1)=t→(e l<e (l+1)↔e K<e (K+1))→(Bt F K l↔Bt F K (l+1)))→(e c<t→t<e (c+3)→thr e r t)→(F K<F (K+1)↔f K<f (K+1))→((∀j,j<n→thr (fun z=>e (sk c z)) j (e (sk c (k+1)))→¬Bt (fun z=>cG e f c (sk c z)) k j)∧
  ∀j,j+1<n→j≠k→e (sk c (j+1))=e (sk c (k+1))→(e (sk c j)<e (sk c (j+1))↔e (sk c k)<e (sk c (k+1)))→(Bt (fun z=>cG e f c (sk c z)) k j↔Bt (fun z=>cG e f c (sk c z)) k (j+1)))∧
  (cG e f c (sk c k)<cG e f c (sk c (k+1))↔f (K)<f (K+1)):=fun F r a1 a2 a3 a4 a5 a6 a7 a8 a9 a10=>by
  have:=region (g:=fun z=>cG e f c (sk c z)) hc hz hL (F:=F) (r:=r) (k:=k) (t:=t) (w:=w) hk (by rw[hK];exact ht) (by rw[hK];exact hw) a1 a2 a3 a4 a5 a6 (by rw[hK];exact a7) (by rw[hK];exact a8) a9
  obtain⟨b1,b2,b3,b4⟩:=this
  rw[hK] at b1 b2
  have b1:cG e f c (sk c k)=F K:=b1
  have b2:cG e f c (sk c (k+1))=F (K+1):=b2
  exact⟨⟨b3,b4⟩,by rw[b1,b2];exact a10⟩
 have sv:=fun z hz hl=>kci hc hL mono hi h (r:=0) (z:=z) (w:=w) hz hl
 have wt:w=t∨w=t-1:=hw.imp (·.1) (·.1)
 by_cases w4:e (c+1)≤w
 ·refine fin (fun x=>hF (fun y=>f (c+2)<y) (f (c+2)-f c) (f x)) (c+2) (fun z hz hl=>(sv z hz hl).2.2.2 w4) (fun _=>rfl) (fun q=>?_) (.inr rfl) (fun _ _ _ _=>rfl) (fun l _ q=>?_) (fun j hj _ hjt=>?_) (fun l hl e0 e1 e2 e3 e4=>?_) (fun g1 g2=>?_) ?_
  ·have:=kc1 q;omega
  ·omega
  ·rw[jm0 (jzn hD)];exact n1 j hj (by rw[←ht];exact hjt)
  ·rw[jm0 (jzn hD),jm0 (jzn hD)];exact n2 l hl e2 (by rw[←ht];exact e3) e4
  ·unfold thr;simp only[show c+2+1=c+3 from rfl];omega
  ·exact(jzn hD _ _).symm
 by_cases w1:w<e (c+2)
 ·refine fin (fun x=>hF (fun y=>f c≤y) (f (c+2)-f c) (f x)) c (fun z hz hl=>(sv z hz hl).1 w1) (fun q=>?_) (fun _=>rfl) (.inl rfl) (fun l _ q _=>?_) (fun _ _ _=>rfl) (fun j hj _ hjt=>?_) (fun l hl e0 e1 e2 e3 e4=>?_) (fun g1 g2=>?_) ?_
  ·have:=kc q;omega
  ·omega
  ·rw[jm0 (j7j hD)];exact n1 j hj (by rw[←ht];exact hjt)
  ·rw[jm0 (j7j hD),jm0 (j7j hD)];exact n2 l hl e2 (by rw[←ht];exact e3) e4
  ·unfold thr;omega
  ·exact(j7j hD _ _).symm
 have nv:∀x y,x<n+2→y<n+2→x≠y→f x≠f y:=fun x y hx hy d=>hi.ne hx hy d
 by_cases w3:t=e (c+1)
 ·
  have lf:e K<t:=by omega
  have K1:K+1≠c:=fun q=>by rw[q] at ht;omega
  refine fin (fun x=>hF (fun y=>(f c<y∧y<f (c+1))∨f (c+2)<y) (f (c+2)-f c) (f x)) (c+2) (fun z hz hl=>(sv z hz hl).2.2.1 (by omega) (by omega)) (fun _=>rfl) (fun q=>?_) (.inr rfl) (fun _ _ _ _=>rfl) (fun l _ q=>?_) (fun j hj hjr hjt=>?_) (fun l hl e0 e1 e2 e3 e4=>?_) (fun g1 g2=>?_) ?_
  ·have:=kc1 q;omega
  ·omega
  ·have tK:=jkx hc hz hL mono hi h (l:=K) o1 o2 o3 (by rw[←ht,w3]) (by rw[←ht];exact lf)
   have hj1:=(h c (by omega)).1 j hj (by rw[←w3];exact hjt)
   rw[j5b hc hL mono hi h] at hj1
   have:=N1' mono.1 mono.2 (a:=f K) (b:=f (K+1)) (x:=f j) (nv _ _ (by omega) (by omega) o3) (nv _ _ (by omega) (by omega) o2) (nv _ _ o1 (by omega) (by omega)) (nv _ _ o1 (by omega) K1) (nv _ _ hj (by omega) (by omega)) (nv _ _ hj (by omega) (by omega)) tK (.inl hj1)
   unfold Bt
   rw[this]
   exact n1 j hj (by rw[←ht];exact hjt)
  ·have l1:l+1≠c:=fun q=>by rw[q] at e3;omega
   have tK:=jkx hc hz hL mono hi h (l:=K) o1 o2 o3 (by rw[←ht,w3]) (by rw[←ht];exact lf)
   have tl:=jkx hc hz hL mono hi h (l:=l) hl e0 e1 (by rw[e3,w3]) (by rw[e3] at e4 ⊢;rw[←ht] at e4;exact e4.2 lf)
   have q1:K≠l+1:=fun q=>by rw[q] at lf hne;omega
   have q2:K+1≠l:=fun q=>by rw[←q] at e4 e3;have:=hz.1 (K+1) (by omega);rw[e3,←ht] at this;omega
   exact M2' mono.1 mono.2 (nv _ _ (by omega) (by omega) o3) (nv _ _ (by omega) (by omega) o2) (nv _ _ o1 (by omega) (by omega)) (nv _ _ o1 (by omega) K1) (nv _ _ (by omega) (by omega) e1) (nv _ _ (by omega) (by omega) e0) (nv _ _ hl (by omega) (by omega)) (nv _ _ hl (by omega) l1)
    (nv _ _ (by omega) (by omega) (by omega)) (nv _ _ (by omega) (by omega) q1) (nv _ _ (by omega) (by omega) q2) (nv _ _ (by omega) (by omega) (by omega)) tK tl (n2 l hl e2 (by rw[←ht];exact e3) e4)
  ·unfold thr;simp only[show c+2+1=c+3 from rfl];omega
  ·have tK:=jkx hc hz hL mono hi h (l:=K) o1 o2 o3 (by rw[←ht,w3]) (by rw[←ht];exact lf)
   exact M3' mono.1 mono.2 (nv _ _ (by omega) (by omega) o3) (nv _ _ (by omega) (by omega) o2) (nv _ _ o1 (by omega) (by omega)) (nv _ _ o1 (by omega) K1) tK
 ·
  have tlt:t<e (c+1):=by omega
  have K2:K≠c+2:=fun q=>by rw[q] at ht;simp only[show c+2+1=c+3 from rfl] at ht;omega
  have sd:∀l,e (l+1)=t→(e l<e (l+1)↔e K<e (K+1))→e l≠e (l+1)→(e (c+2)<e (l+1)∨(e (c+2)=e (l+1)∧e (l+1)<e l)):=fun l q1 q2 q3=>by
   rw[q1,←ht] at q2;rw[q1] at q3 ⊢;omega
  have tK:=jyi hc hz hL mono hi h (l:=K) o1 o2 o3 K2 (sd K ht.symm Iff.rfl (by rw[←ht];exact hne)) (by rw[←ht];exact tlt)
  refine fin (fun x=>hF (fun y=>(f c≤y∧y<f (c+1))∨f (c+2)<y) (f (c+2)-f c) (f x)) c (fun z hz hl=>(sv z hz hl).2.1 (by omega) (by omega)) (fun q=>?_) (fun _=>rfl) (.inl rfl) (fun l _ q _=>?_) (fun _ _ _=>rfl) (fun j hj hjr hjt=>?_) (fun l hl e0 e1 e2 e3 e4=>?_) (fun g1 g2=>?_) ?_
  ·have:=kc q;omega
  ·omega
  ·have hx:¬(f (c+1)<f j∧f j<f (c+2))∨((f c≤f K∧f K<f (c+1))↔(f c≤f (K+1)∧f (K+1)<f (c+1))):=by
    by_cases q:t=e (c+2)
    ·left
     rw[←j5c hc hL mono hi h]
     exact(h (c+1) (by omega)).1 j hj (by rw[show c+1+1=c+2 from rfl,←q];exact hjt)
    ·right
     have p0:=n1 c (by omega) (by rw[←ht];unfold thr;omega)
     have p1:=n1 (c+1) (by omega) (by rw[←ht];unfold thr;simp only[show c+1+1=c+2 from rfl];omega)
     have q0:=nv K c (by omega) (by omega) o2
     have q1:=nv K (c+1) (by omega) (by omega) o3
     have q3:=nv (K+1) (c+1) o1 (by omega) (by omega)
     have q2:f (K+1)≠f c:=nv _ _ o1 (by omega) (fun q=>by rw[q] at ht;omega)
     unfold Bt at p0 p1
     omega
   have:=N1 mono.1 mono.2 (a:=f K) (b:=f (K+1)) (x:=f j) (nv _ _ (by omega) (by omega) o3) (nv _ _ (by omega) (by omega) K2) (nv _ _ o1 (by omega) (by omega)) (nv _ _ o1 (by omega) (by omega)) (nv _ _ hj (by omega) (by omega)) (nv _ _ hj (by omega) (by omega)) tK hx
   unfold Bt
   rw[this]
   exact n1 j hj (by rw[←ht];exact hjt)
  ·have l2:l≠c+2:=fun q=>by rw[q] at e3;simp only[show c+2+1=c+3 from rfl] at e3;omega
   have tl:=jyi hc hz hL mono hi h (l:=l) hl e0 e1 l2 (sd l e3 e4 (hz.1 l (by omega))) (by rw[e3];exact tlt)
   have q1:K≠l+1:=fun q=>by rw[q] at hne;omega
   have q2:K+1≠l:=fun q=>by rw[←q] at e4 e3;have:=hz.1 (K+1) (by omega);rw[e3,←ht] at this;omega
   exact M2 mono.1 mono.2 (nv _ _ (by omega) (by omega) o3) (nv _ _ (by omega) (by omega) K2) (nv _ _ o1 (by omega) (by omega)) (nv _ _ o1 (by omega) (by omega)) (nv _ _ (by omega) (by omega) e1) (nv _ _ (by omega) (by omega) l2) (nv _ _ hl (by omega) (by omega)) (nv _ _ hl (by omega) (by omega))
    (nv _ _ (by omega) (by omega) (by omega)) (nv _ _ (by omega) (by omega) q1) (nv _ _ (by omega) (by omega) q2) (nv _ _ (by omega) (by omega) (by omega)) tK tl (n2 l hl e2 (by rw[←ht];exact e3) e4)
  ·unfold thr;omega
  ·exact M3 mono.1 mono.2 (nv _ _ (by omega) (by omega) o3) (nv _ _ (by omega) (by omega) K2) (nv _ _ o1 (by omega) (by omega)) (nv _ _ o1 (by omega) (by omega)) tK
end
end Go.Vm.X.Fd
