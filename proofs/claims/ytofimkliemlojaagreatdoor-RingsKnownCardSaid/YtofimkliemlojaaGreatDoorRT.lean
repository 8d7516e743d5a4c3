/-
  A closed line that does not cross itself turns once around: its half turns to the one side and to the other differ by two.
  Rings: in a pile in which nothing crosses mountains and valleys differ by two.
  Rings: Turn, Open, Over; rings that are turned or turned over have as many ways.
  Rings: the law RingsTurn.
-/
import Derived.Test.YtofimkliemlojaaGreatDoorRW
set_option linter.unusedSimpArgs false
set_option linter.unusedVariables false
set_option linter.unusedSectionVars false
set_option linter.unnecessarySimpa false
namespace Go.Vm
namespace X
def sgR (r:Nat→Int) (a b:Nat):Int:=if r a<r b then 1 else -1
def dRi (P:Nat→Int) (i j:Nat):Int:=if P i<P j then 1 else 0
structure Curve (n:Nat) (P r:Nat→Int):Prop where
 two:2<n
 even:n%2=0
 close:P n=P 0
 ext:∀j,0<j→j<n→P 0<P j
 up:∀i,i<n→i%2=0→P i<P (i+1)
 down:∀i,i<n→i%2=1→P (i+1)<P i
 inj:∀i j,i<n→j<n→P i=P j→i=j
 rinj:∀i j,0<i→i≤n→0<j→j≤n→r i=r j→i=j
 nc:∀i j,i<n→0<j→j<n→j≠i→j≠i+1→(P i<P j∧P j<P (i+1)∨P (i+1)<P j∧P j<P i)→(r j<r (i+1)↔r (j+1)<r (i+1))
def hW (P r:Nat→Int) (i j:Nat):Int:=(dRi P i (j+1)-dRi P i j)*sgR r (i+1) (j+1)
def vW (P r:Nat→Int) (i j:Nat):Int:=(dRi P (i+1) j-dRi P i j)*sgR r (i+1) j
def tW (r:Nat→Int) (k:Nat):Int:=if k%2=0 then sgR r k (k+1) else-sgR r k (k+1)
def jho (f:Nat→Int) (a:Nat):Nat→Int
 | 0=>0
 | k+1=>jho f a k+f (a+k)
theorem jn6 (f:Nat→Int) (a:Nat):∀k,jho f a (k+1)=f a+jho f (a+1) k
 | 0=>by simp[jho]
 | k+1=>by
   rw[jho,jn6 f a k,jho,show a+ (k+1)=a+1+k by omega]
   omega
theorem j1z (f:Nat→Int) (a:Nat):∀k,(∀j,j<k→f (a+j)=0)→jho f a k=0
 | 0,_=>rfl
 | k+1,h=>by rw[jho,j1z f a k fun j hj=>h j (by omega),h k (by omega)];rfl
theorem kdz {d00 d01 d10 d11 s s1 s2:Int} (h1:d10≠d00→s1=s) (h2:d11≠d10→s2=s):(d01-d00)*s+ (d11-d01)*s=(d10-d00)*s1+ (d11-d10)*s2:=by
 have e1:(d10-d00)*s1=(d10-d00)*s:=by
  by_cases h:d10=d00
  ·rw[h,Int.sub_self,Int.zero_mul,Int.zero_mul]
  ·rw[h1 h]
 have e2:(d11-d10)*s2=(d11-d10)*s:=by
  by_cases h:d11=d10
  ·rw[h,Int.sub_self,Int.zero_mul,Int.zero_mul]
  ·rw[h2 h]
 rw[e1,e2,←Int.add_mul,←Int.add_mul]
 congr 1
 omega
section
variable {n:Nat} {P r:Nat→Int} (h:Curve n P r)
include h
omit h in
theorem km1 {i j k:Nat} (e:dRi P i k≠dRi P j k):P i<P k∧P k≤P j∨P j<P k∧P k≤P i:=by
 unfold dRi at e
 by_cases h1:P i<P k<;>by_cases h2:P j<P k<;>simp[h1,h2] at e<;>omega
theorem Curve.side {i k:Nat} (hi:i<n) (hk:0<k) (hkn:k<n) (h1:k≠i) (h2:k≠i+1) (e:P i<P k∧P k≤P (i+1)∨P (i+1)<P k∧P k≤P i∨P i≤P k∧P k<P (i+1)∨P (i+1)≤P k∧P k<P i):r k<r (i+1)↔r (k+1)<r (i+1):=by
 have n1:P k≠P i:=fun e=>h1 (h.inj _ _ hkn hi e)
 have n2:P k≠P (i+1):=fun e=>by
  by_cases he:i+1<n
  ·exact h2 (h.inj _ _ hkn he e)
  ·rw[show i+1=n by omega,h.close] at e
   have:=h.ext k hk hkn
   omega
 exact h.nc i k hi hk hkn h1 h2 (by omega)
theorem Curve.sq {i j:Nat} (hij:i+2≤j) (hj:j<n):hW P r i j+vW P r i (j+1)=vW P r i j+hW P r (i+1) j:=by
 unfold hW vW
 refine kdz (fun e=>?_) fun e=>?_
 ·have a:=km1 (P:=P) (i:=i) (j:=i+1) (k:=j) (fun c=>e c.symm)
  have b:=h.side (i:=i) (k:=j) (by omega) (by omega) hj (by omega) (by omega) (by omega)
  have r1:r j≠r (i+1):=fun c=>absurd (h.rinj _ _ (by omega) (by omega) (by omega) (by omega) c) (by omega)
  have r2:r (j+1)≠r (i+1):=fun c=>absurd (h.rinj _ _ (by omega) (by omega) (by omega) (by omega) c) (by omega)
  unfold sgR
  by_cases c:r (i+1)<r j
  ·rw[if_pos c,if_pos (by omega)]
  ·rw[if_neg c,if_neg (by omega)]
 ·have b:=h.side (i:=j) (k:=i+1) (by omega) (by omega) (by omega) (by omega) (by omega) (by
   unfold dRi at e
   by_cases h1:P (i+1)<P (j+1)<;>by_cases h2:P (i+1)<P j<;>simp[h1,h2] at e<;>omega)
  unfold sgR
  by_cases c:r (i+1)<r (j+1)
  ·rw[if_pos c,if_pos (by omega)]
  ·rw[if_neg c,if_neg (by omega)]
theorem Curve.tri {i:Nat} (hi:i+2≤n):hW P r i (i+1)+vW P r i (i+2)=tW r (i+1):=by
 unfold hW vW tW
 rw[←Int.add_mul]
 have d1:dRi P i (i+1)=if i%2=0 then 1 else 0:=by
  unfold dRi
  by_cases e:i%2=0
  ·rw[if_pos e,if_pos (h.up i (by omega) e)]
  ·rw[if_neg e,if_neg (by have:=h.down i (by omega) (by omega);omega)]
 have d2:dRi P (i+1) (i+2)=if i%2=0 then 0 else 1:=by
  unfold dRi
  by_cases e:i%2=0
  ·rw[if_pos e,if_neg (by have:P (i+2)<P (i+1):=h.down (i+1) (by omega) (by omega);omega)]
  ·rw[if_neg e,if_pos (show P (i+1)<P (i+2) from h.up (i+1) (by omega) (by omega))]
 rw[show i+1+1=i+2 from rfl,show dRi P i (i+2)-dRi P i (i+1)+ (dRi P (i+1) (i+2)-dRi P i (i+2))=dRi P (i+1) (i+2)-dRi P i (i+1) by omega,d1,d2]
 by_cases e:i%2=0
 ·rw[if_pos e,if_pos e,if_neg (by omega)];omega
 ·rw[if_neg e,if_neg e,if_pos (by omega)];omega
theorem Curve.row {i:Nat}:∀k,i+2+k≤n→(i≠0∨i+2+k<n)→jho (hW P r i) (i+1) (k+1)+vW P r i (i+2+k)=tW r (i+1)+jho (hW P r (i+1)) (i+2) k
 | 0,h1,_=>by
   rw[←h.tri (by omega)]
   simp[jho]
 | k+1,h1,h2=>by
   have ih:=Curve.row (i:=i) k (by omega) (by omega)
   have:=h.sq (i:=i) (j:=i+2+k) (by omega) (by omega)
   have e1:jho (hW P r i) (i+1) (k+1+1)=jho (hW P r i) (i+1) (k+1)+hW P r i (i+1+ (k+1)):=rfl
   have e2:jho (hW P r (i+1)) (i+2) (k+1)=jho (hW P r (i+1)) (i+2) k+hW P r (i+1) (i+2+k):=rfl
   rw[show i+1+ (k+1)=i+2+k by omega] at e1
   rw[show i+2+ (k+1)=i+2+k+1 by omega]
   omega
theorem Curve.last {i:Nat} (h0:0<i):∀m,i+1+m=n→jho (hW P r i) (i+1) m=jho (tW r) (i+1) m
 | 0,_=>rfl
 | m+1,e=>by
   have ih:=Curve.last (i:=i+1) (by omega) m (by omega)
   have:=h.row (i:=i) m (by omega) (by omega)
   have v0:vW P r i (i+2+m)=0:=by
    unfold vW dRi
    rw[show i+2+m=n by omega,h.close,if_neg (by have:=h.ext (i+1) (by omega) (by omega);omega),if_neg (by have:=h.ext i h0 (by omega);omega)]
    simp
   rw[jn6 (tW r)]
   rw[show i+1+1=i+2 from rfl] at ih ⊢
   omega
theorem Curve.turns:jho (tW r) 1 (n-1)= - sgR r 1 n:=by
 have h2:=h.two
 have he:=h.even
 obtain⟨m,rfl⟩:∃m,n=m+3:=⟨n-3,by omega⟩
 have z:jho (hW P r 0) 1 (m+1)=0:=j1z _ _ _ fun j hj=>by
  unfold hW dRi
  rw[if_pos (h.ext _ (by omega) (by omega)),if_pos (h.ext _ (by omega) (by omega))]
  simp
 have r0:=h.row (i:=0) m (by omega) (by omega)
 have l1:=h.last (i:=1) (by omega) (m+1) (by omega)
 have s1:jho (hW P r 1) 2 (m+1)=jho (hW P r 1) 2 m+hW P r 1 (2+m):=rfl
 rw[show m+3-1=(m+1)+1 from rfl,jn6,show 1+1=2 from rfl]
 rw[show 0+1=1 from rfl,show 0+2=2 from rfl] at r0
 rw[show 1+1=2 from rfl] at l1
 have key:vW P r 0 (2+m)+hW P r 1 (2+m)= - sgR r 1 (m+3):=by
  unfold vW hW
  have e0:dRi P 0 (2+m)=1:=if_pos (h.ext _ (by omega) (by omega))
  have e1:dRi P (1+0) (2+m+1)=0:=by
   unfold dRi
   rw[show 2+m+1=m+3 by omega,h.close,if_neg (by have:=h.ext (1+0) (by omega) (by omega);omega)]
  have P1:=h.ext 1 (by omega) (by omega)
  have P2:=h.ext (2+m) (by omega) (by omega)
  have Pc:=h.close
  rw[show 0+1=1 from rfl,e0,show dRi P 1 (2+m+1)=0 from e1,show 2+m+1=m+3 by omega]
  have d:dRi P 1 (2+m)=if P 1<P (2+m) then 1 else 0:=rfl
  by_cases c:P 1<P (2+m)
  ·rw[d,if_pos c]
   have b:=h.side (i:=2+m) (k:=1) (by omega) (by omega) (by omega) (by omega) (by omega) (by rw[show 2+m+1=m+3 by omega];omega)
   rw[show 2+m+1=m+3 by omega,show 1+1=2 from rfl] at b
   have:sgR r (1+1) (m+3)=sgR r 1 (m+3):=by
    unfold sgR
    rw[show 1+1=2 from rfl]
    by_cases c:r 1<r (m+3)
    ·rw[if_pos c,if_pos (by omega)]
    ·rw[if_neg c,if_neg (by omega)]
   rw[this]
   omega
  ·rw[d,if_neg c]
   have n1:P 1≠P (2+m):=fun e=>absurd (h.inj _ _ (by omega) (by omega) e) (by omega)
   have b:=h.side (i:=0) (k:=2+m) (by omega) (by omega) (by omega) (by omega) (by omega) (by rw[show 0+1=1 from rfl];omega)
   rw[show 2+m+1=m+3 by omega,show 0+1=1 from rfl] at b
   have r1:r (2+m)≠r 1:=fun c=>absurd (h.rinj _ _ (by omega) (by omega) (by omega) (by omega) c) (by omega)
   have r2:r (m+3)≠r 1:=fun c=>absurd (h.rinj _ _ (by omega) (by omega) (by omega) (by omega) c) (by omega)
   have:sgR r 1 (2+m)=sgR r 1 (m+3):=by
    unfold sgR
    by_cases c:r 1<r (2+m)
    ·rw[if_pos c,if_pos (by omega)]
    ·rw[if_neg c,if_neg (by omega)]
   rw[this]
   omega
 omega
end
end X
end Go.Vm
namespace Go.Vm
namespace X
open W
theorem jzi (f:Nat→Int) (a k:Nat):∀m,jho f a (k+m)=jho f a k+jho f (a+k) m
 | 0=>by simp[jho]
 | m+1=>by rw[show k+ (m+1)=(k+m)+1 by omega,jho,jzi f a k m,jho,show a+ (k+m)=a+k+m by omega];omega
theorem jn7 {f g:Nat→Int} {a b:Nat}:∀k,(∀j,j<k→f (a+j)=g (b+j))→jho f a k=jho g b k
 | 0,_=>rfl
 | k+1,h=>by rw[jho,jho,jn7 k fun j hj=>h j (by omega),h k (by omega)]
def rot (n e k:Nat):Nat:=if e+k<n then e+k else e+k-n
theorem j6u {n e k:Nat} (he:e<n) (hk:k≤n):rot n e k<n:=by unfold rot;split<;>omega
theorem kg5 (f:Nat→Int) {n e:Nat} (he:e<n):jho f 0 n=jho (fun k=>f (rot n e k)) 0 n:=by
 obtain⟨m,rfl⟩:∃m,n=e+m:=⟨n-e,by omega⟩
 rw[jzi f 0 e m]
 conv=>rhs;rw[show e+m=m+e by omega]
 rw[jzi _ 0 m e,jn7 (f:=fun k=>f (rot (m+e) e k)) (g:=f) (a:=0) (b:=0+e) m fun j hj=>?_,jn7 (f:=fun k=>f (rot (m+e) e k)) (g:=f) (a:=0+m) (b:=0) e fun j hj=>?_]
 ·omega
 ·show f (rot (m+e) e (0+m+j))=_
  unfold rot
  rw[if_neg (by omega)]
  congr 1;omega
 ·show f (rot (m+e) e (0+j))=_
  unfold rot
  rw[if_pos (by omega)]
  congr 1;omega
theorem j7d (P:Nat→Int):∀n,0<n→∃e,e<n∧∀j,j<n→P e≤P j
 | 0,h=>absurd h (by omega)
 | 1,_=>⟨0,by omega,fun j hj=>by rw[show j=0 by omega];exact Int.le_refl _⟩
 | n+2,_=>by
   obtain⟨e,h1,h2⟩:=j7d P (n+1) (by omega)
   by_cases h:P e≤P (n+1)
   ·refine⟨e,by omega,fun j hj=>?_⟩
    by_cases hj':j<n+1
    ·exact h2 j hj'
    ·rw[show j=n+1 by omega];exact h
   ·refine⟨n+1,by omega,fun j hj=>?_⟩
    by_cases hj':j<n+1
    ·have:=h2 j hj';omega
    ·rw[show j=n+1 by omega];exact Int.le_refl _
theorem ka3 {x y K u v:Int} (hu:0≤u) (hu':u<K) (hv:0≤v) (hv':v<K):x*K+u<y*K+v↔x<y∨(x=y∧u<v):=by
 rcases Int.lt_trichotomy x y with h | h | h
 ·have:(x+1)*K≤y*K:=Int.mul_le_mul_of_nonneg_right (by omega) (by omega)
  rw[Int.add_mul,Int.one_mul] at this
  omega
 ·subst h;omega
 ·have:(y+1)*K≤x*K:=Int.mul_le_mul_of_nonneg_right (by omega) (by omega)
  rw[Int.add_mul,Int.one_mul] at this
  omega
def nx (n i:Nat):Nat:=if i+1<n then i+1 else 0
theorem joq {n i:Nat}:sc n (i:Int)=(nx n i:Nat):=by
 unfold sc nx
 by_cases h:i+1<n
 ·rw[if_pos (by omega),if_pos h];omega
 ·rw[if_neg (by omega),if_neg h];rfl
def juj (n:Nat) (f:Int→Int) (i:Nat):Int:=if i%2=1 then 2*n+min (f i) (f (nx n i:Nat)) else n-1-min (f i) (f (nx n i:Nat))
def j4h (E:List Int) (n:Nat) (f:Int→Int) (i:Nat):Int:=E.getD (i+1) 0* (4*n)+juj n f i
structure RkF (n:Nat) (f:Int→Int):Prop where
 lo:∀x:Nat,x<n→0≤f x
 hi:∀x:Nat,x<n→f x<n
 inj:∀x y:Nat,x<n→y<n→f x=f y→x=y
section
variable {E:List Int} {n:Nat} {f:Int→Int} (h:REnds E n) (hf:RkF n f)
include h hf
theorem jow {i:Nat} (hi:i<n):nx n i<n∧nx n i≠i∧(nx n i)%2≠i%2:=by
 have:=h.two;have:=h.even
 unfold nx;split<;>omega
theorem j5a {i:Nat} (hi:i<n):0≤juj n f i∧juj n f i<4*n:=by
 have a:=hf.lo _ hi;have b:=hf.hi _ hi
 have a':=hf.lo _ (jow h hf hi).1;have b':=hf.hi _ (jow h hf hi).1
 unfold juj
 split<;>omega
theorem jlg {i j:Nat} (hi:i<n) (hj:j<n):j4h E n f i<j4h E n f j↔E.getD (i+1) 0<E.getD (j+1) 0∨(E.getD (i+1) 0=E.getD (j+1) 0∧juj n f i<juj n f j):=by
 have a:=j5a h hf hi;have b:=j5a h hf hj
 exact ka3 a.1 a.2 b.1 b.2
theorem j62 {i j:Nat} (hi:i<n) (hj:j<n) (e:j4h E n f i=j4h E n f j):i=j:=by
 have l1:=jlg h hf hi hj
 have l2:=jlg h hf hj hi
 have e1:juj n f i=juj n f j:=by omega
 have a:=jow h hf hi;have b:=jow h hf hj
 have v1:=hf.lo _ hi;have v2:=hf.hi _ hi;have v3:=hf.lo _ hj;have v4:=hf.hi _ hj
 have v5:=hf.lo _ a.1;have v6:=hf.hi _ a.1;have v7:=hf.lo _ b.1;have v8:=hf.hi _ b.1
 have q:i%2=j%2∧min (f i) (f (nx n i:Nat))=min (f j) (f (nx n j:Nat)):=by
  unfold juj at e1
  by_cases c1:i%2=1<;>by_cases c2:j%2=1<;>simp only[c1,c2,if_true,if_false] at e1<;>omega
 have i1:=hf.inj i j hi hj
 have i2:=hf.inj i (nx n j) hi b.1
 have i3:=hf.inj (nx n i) j a.1 hj
 have i4:=hf.inj (nx n i) (nx n j) a.1 b.1
 have i5:nx n i=nx n j→i=j:=by
  unfold nx
  split<;>split<;>omega
 omega
theorem kiw {i:Nat} (hi:i<n):E.getD (nx n i) 0=E.getD (i+1) 0:=by
 unfold nx
 split
 ·rfl
 ·rw[show i+1=n by omega,h.closed]
theorem jyh {e k:Nat} (he:e<n) (hk:k<n):rot n e (k+1)=nx n (rot n e k):=by
 have:=h.two
 unfold rot nx
 by_cases c:e+k<n
 ·rw[if_pos c]
  by_cases c2:e+k+1<n
  ·rw[if_pos (by omega),if_pos c2];omega
  ·rw[if_neg (by omega),if_neg c2];omega
 ·rw[if_neg c,if_neg (by omega),if_pos (by omega)];omega
theorem j4v {e k:Nat} (he:e<n) (ho:e%2=1) (hk:k≤n):(k%2=0↔(rot n e k)%2=1):=by
 have:=h.even
 unfold rot;split<;>omega
theorem kam {i:Nat} (hi:i<n) (ho:i%2=1):E.getD (i+1) 0<E.getD (nx n i+1) 0:=by
 have a:=jow h hf hi
 have:=h.up _ a.1 (by omega)
 rw[kiw h hf hi] at this
 exact this
theorem jvi {i:Nat} (hi:i<n) (ho:i%2=0):E.getD (nx n i+1) 0<E.getD (i+1) 0:=by
 have a:=jow h hf hi
 have:=h.down _ a.1 (by omega)
 rw[kiw h hf hi] at this
 exact this
theorem kgz (hc:¬jdz E n f) {c j:Nat} (hi:c<n) (hj:j<n) (h1:j≠c) (h2:j≠nx n c)
  (hb:j4h E n f c<j4h E n f j∧j4h E n f j<j4h E n f (nx n c)∨j4h E n f (nx n c)<j4h E n f j∧j4h E n f j<j4h E n f c):f (j:Nat)<f (nx n c:Nat)↔f (nx n j:Nat)<f (nx n c:Nat):=by
 have a:=jow h hf hi;have b:=jow h hf hj
 have a2:=jow h hf a.1
 have n1:f (j:Nat)≠f (nx n c:Nat):=fun e=>h2 (hf.inj _ _ hj a.1 e)
 have n2:f (nx n j:Nat)≠f (nx n c:Nat):=fun e=>by
  have:=hf.inj _ _ b.1 a.1 e
  refine h1 ?_
  revert this
  unfold nx
  split<;>split<;>omega
 have key:¬jk8 n f j (nx n c:Nat):=fun hbt=>by
  have hbt':=hbt
  rw[jk8,joq] at hbt
  rw[jlg h hf hi hj,jlg h hf hj a.1,jlg h hf a.1 hj,jlg h hf hj hi] at hb
  have nocross:¬(frm E (nx n c)<E.getD (j+1) 0∧E.getD (j+1) 0<too E (nx n c)):=fun hh=>hc ⟨j,by omega,by omega,.inl ⟨(nx n c:Nat),by omega,by omega,by simpa using hh.1,by simpa using hh.2,hbt'⟩⟩
  have besd:∀k:Nat,k<n→k≠j→E.getD (k+1) 0=E.getD (j+1) 0→k%2=j%2→(jk8 n f j k↔jk8 n f j (sc n k)):=fun k hk hkj hk1 hk2=>by
   refine Classical.byContradiction fun hh=>hc ⟨j,by omega,by omega,.inr ⟨k,by omega,by omega,by omega,by simpa using hk1,?_,hh⟩⟩
   have u1:=h.up _ hk;have u2:=h.down _ hk;have u3:=h.up _ hj;have u4:=h.down _ hj
   simp only[Int.toNat_natCast]
   omega
  have at1:=kiw h hf hi
  rw[frm,too,at1] at nocross
  by_cases co:c%2=1
  ·have st:=kam h hf hi co
   rcases Int.lt_trichotomy (E.getD (j+1) 0) (E.getD (c+1) 0) with g | g | g
   ·omega
   ·
    have oo:juj n f c<juj n f j:=by omega
    have bd1:=j5a h hf hi
    by_cases jo:j%2=1
    ·have bc:=besd c hi (fun e=>h1 e.symm) g.symm (by omega)
     rw[joq] at bc
     have hb1:=bc.2 hbt'
     rw[jk8,joq] at hb1
     unfold juj at oo
     rw[if_pos co,if_pos jo] at oo
     omega
    ·unfold juj at oo
     rw[if_pos co,if_neg jo] at oo
     have v1:=hf.lo _ hi;have v5:=hf.lo _ a.1;have v3:=hf.lo _ hj;have v7:=hf.lo _ b.1
     have w3:=hf.hi _ hj;have w7:=hf.hi _ b.1
     omega
   ·rcases Int.lt_trichotomy (E.getD (j+1) 0) (E.getD (nx n c+1) 0) with g2 | g2 | g2
    ·omega
    ·have oo:juj n f j<juj n f (nx n c):=by omega
     by_cases jo:j%2=1
     ·unfold juj at oo
      rw[if_pos jo,if_neg (by omega)] at oo
      have v1:=hf.lo _ a.1;have v5:=hf.lo _ a2.1;have v3:=hf.lo _ hj;have v7:=hf.lo _ b.1
      have w3:=hf.hi _ hj;have w7:=hf.hi _ b.1;have w5:=hf.hi _ a2.1;have w1:=hf.hi _ a.1
      omega
     ·have bc:=besd (nx n c) a.1 (fun e=>h2 e.symm) g2.symm (by omega)
      rw[joq] at bc
      have hb1:=bc.1 hbt'
      rw[jk8,joq] at hb1
      unfold juj at oo
      rw[if_neg jo,if_neg (by omega)] at oo
      omega
    ·omega
  ·have st:=jvi h hf hi (by omega)
   rcases Int.lt_trichotomy (E.getD (j+1) 0) (E.getD (c+1) 0) with g | g | g
   ·rcases Int.lt_trichotomy (E.getD (j+1) 0) (E.getD (nx n c+1) 0) with g2 | g2 | g2
    ·omega
    ·have oo:juj n f (nx n c)<juj n f j:=by omega
     by_cases jo:j%2=1
     ·have bc:=besd (nx n c) a.1 (fun e=>h2 e.symm) g2.symm (by omega)
      rw[joq] at bc
      have hb1:=bc.1 hbt'
      rw[jk8,joq] at hb1
      unfold juj at oo
      rw[if_pos (by omega),if_pos jo] at oo
      omega
     ·unfold juj at oo
      rw[if_pos (by omega),if_neg jo] at oo
      have v1:=hf.lo _ a.1;have v5:=hf.lo _ a2.1;have v3:=hf.lo _ hj;have v7:=hf.lo _ b.1
      have w3:=hf.hi _ hj;have w7:=hf.hi _ b.1;have w5:=hf.hi _ a2.1;have w1:=hf.hi _ a.1
      omega
    ·omega
   ·have oo:juj n f j<juj n f c:=by omega
    by_cases jo:j%2=1
    ·unfold juj at oo
     rw[if_pos jo,if_neg co] at oo
     have v1:=hf.lo _ hi;have v5:=hf.lo _ a.1;have v3:=hf.lo _ hj;have v7:=hf.lo _ b.1
     have w3:=hf.hi _ hj;have w7:=hf.hi _ b.1;have w1:=hf.hi _ hi;have w5:=hf.hi _ a.1
     omega
    ·have bc:=besd c hi (fun e=>h1 e.symm) g.symm (by omega)
     rw[joq] at bc
     have hb1:=bc.2 hbt'
     rw[jk8,joq] at hb1
     unfold juj at oo
     rw[if_neg jo,if_neg co] at oo
     omega
   ·omega
 rw[jk8,joq] at key
 omega
def jud (n:Nat) (f:Int→Int) (i:Nat):Int:=3-2*je1 n f i
omit h in
theorem jzc {i:Nat} (hi:i<n) (hn:nx n i<n) (hne:nx n i≠i):jud n f i=if i%2=1 then(if f i<f (nx n i:Nat) then 1 else -1) else -(if f i<f (nx n i:Nat) then 1 else -1):=by
 unfold jud je1
 rw[joq]
 have:f i≠f (nx n i:Nat):=fun e=>hne (hf.inj _ _ hi hn e).symm
 by_cases c:i%2=1
 ·rw[if_neg (by omega),if_pos c]
  by_cases c2:f i<f (nx n i:Nat)
  ·rw[if_neg (by omega),if_pos c2];rfl
  ·rw[if_pos (by omega),if_neg c2];rfl
 ·rw[if_pos (by omega),if_neg c]
  by_cases c2:f i<f (nx n i:Nat)
  ·rw[if_pos c2,if_pos c2];rfl
  ·rw[if_neg c2,if_neg c2];rfl
theorem j8y (hc:¬jdz E n f):jho (jud n f) 0 n=2∨jho (jud n f) 0 n= -2:=by
 have h2:=h.two
 have hev:=h.even
 by_cases n2:n=2
 ·subst n2
  have a:=jow h hf (i:=0) (by omega);have b:=jow h hf (i:=1) (by omega)
  show 0+jud 2 f 0+jud 2 f 1=2∨0+jud 2 f 0+jud 2 f 1= -2
  rw[jzc hf (by omega) a.1 a.2.1,jzc hf (by omega) b.1 b.2.1]
  rw[show nx 2 0=1 from rfl,show nx 2 1=0 from rfl]
  have:f (0:Nat)≠f (1:Nat):=fun e=>absurd (hf.inj 0 1 (by omega) (by omega) e) (by omega)
  rw[if_neg (show ¬0%2=1 by omega),if_pos (show 1%2=1 from rfl)]
  by_cases c:f (0:Nat)<f (1:Nat)
  ·rw[if_pos c,if_neg (by omega)];right;rfl
  ·rw[if_neg c,if_pos (by omega)];left;rfl
 obtain⟨e,he,hl⟩:=j7d (j4h E n f) n (by omega)
 have eo:e%2=1:=by
  apply Classical.byContradiction
  intro hh
  have b:=jow h hf he
  have st:=jvi h hf he (by omega)
  have:=hl _ b.1
  have:=jlg h hf b.1 he
  omega
 have rl:∀k,k≤n→rot n e k<n:=fun k hk=>j6u he hk
 have r0:rot n e 0=e:=by unfold rot;rw[if_pos (by omega)];omega
 have rn:rot n e n=e:=by unfold rot;rw[if_neg (by omega)];omega
 have ri:∀i j,i<n→j<n→rot n e i=rot n e j→i=j:=fun i j hi hj=>by unfold rot;split<;>split<;>omega
 have cv:Curve n (fun k=>j4h E n f (rot n e k)) (fun k=>f (rot n e k:Nat)):=
  { two:=by omega
    even:=hev
    close:=by simp only[rn,r0]
    ext:=fun j h0 hj=>by
     simp only[r0]
     have:=hl _ (rl j (by omega))
     rcases Int.lt_or_le (j4h E n f e) (j4h E n f (rot n e j)) with g | g
     ·exact g
     ·have:=j62 h hf he (rl j (by omega)) (by omega)
      rw[←r0] at this
      have:=ri 0 j (by omega) hj (by rw[r0] at this ⊢;exact this)
      omega
    up:=fun i hi hp=>by
     rw[jyh h hf he hi,jlg h hf (rl i (by omega)) (jow h hf (rl i (by omega))).1]
     exact .inl (kam h hf (rl i (by omega)) ((j4v h hf he eo (by omega)).1 hp))
    down:=fun i hi hp=>by
     rw[jyh h hf he hi,jlg h hf (jow h hf (rl i (by omega))).1 (rl i (by omega))]
     have:=(j4v h hf he eo (k:=i) (by omega))
     exact .inl (jvi h hf (rl i (by omega)) (by omega))
    inj:=fun i j hi hj ee=>ri i j hi hj (j62 h hf (rl i (by omega)) (rl j (by omega)) ee)
    rinj:=fun i j h0 hi h0' hj ee=>by
     have:=hf.inj _ _ (rl i hi) (rl j hj) ee
     revert this
     unfold rot;split<;>split<;>omega
    nc:=fun i j hi h0 hj h1 h2' hb=>by
     have e1:=jyh h hf he hi
     have e2:=jyh h hf he hj
     rw[e1] at hb ⊢
     rw[e2]
     refine kgz h hf hc (rl i (by omega)) (rl j (by omega)) (fun e'=>h1 (ri _ _ hj hi e')) (fun e'=>?_) hb
     rw[←e1] at e'
     revert e'
     unfold rot;split<;>split<;>omega }
 have tn:=cv.turns
 rw[kg5 (jud n f) he]
 obtain⟨m,hm⟩:∃m,n=m+1:=⟨n-1,by omega⟩
 have sp:jho (fun k=>jud n f (rot n e k)) 0 n=jud n f (rot n e 0)+jho (fun k=>jud n f (rot n e k)) 1 (n-1):=by
  rw[hm,jn6];rfl
 have cg:jho (fun k=>jud n f (rot n e k)) 1 (n-1)=jho (tW fun k=>f (rot n e k:Nat)) 1 (n-1):=jn7 _ fun j hj=>by
  have b:=jow h hf (rl (1+j) (by omega))
  rw[jzc hf (rl _ (by omega)) b.1 b.2.1,←jyh h hf he (by omega)]
  have pr:=j4v h hf he eo (k:=1+j) (by omega)
  unfold tW sgR
  by_cases c:(1+j)%2=0
  ·rw[if_pos (pr.1 c),if_pos c]
  ·rw[if_neg (by omega),if_neg c]
 rw[sp,cg,tn,r0]
 have b:=jow h hf he
 rw[jzc hf he b.1 b.2.1,if_pos eo]
 unfold sgR
 have e1:rot n e 1=nx n e:=by
  have:=jyh h hf he (k:=0) (by omega)
  rw[r0] at this
  exact this
 simp only[e1,rn]
 have:f e≠f (nx n e:Nat):=fun ee=>b.2.1 (hf.inj _ _ he b.1 ee).symm
 by_cases c:f e<f (nx n e:Nat)
 ·rw[if_pos c,if_neg (by omega)];left;rfl
 ·rw[if_neg c,if_pos (by omega)];right;rfl
end
end X
end Go.Vm
namespace Go.Vm
namespace X
open W Go.Proofs.St
theorem joo {A B:List Int} (hA:A.length≤1000) (hB:B.length≤1000):jcz fuel [A,B]=some (A++B):=by
 apply Ret.eq
 unfold jcz
 have l2:(([A,B]:List (List Int)).length:Int)=2:=rfl
 refine jan (Inv:=fun x:Int×Int=>0≤x.2∧x.2≤2∧x.1=if x.2=0 then(0:Int) else if x.2=1 then(A.length:Int) else A.length+B.length) (m:=fun x=>(2-x.2).toNat) ?_ _ _ ⟨by simp,by simp,by simp⟩ (by simp only[fuel];omega)
 rintro ⟨z,i⟩ rec ⟨i1,i2,i3⟩ ih
 simp only at i1 i2 i3 ⊢
 refine jab (fun hlt=>?_) fun hge=>?_
 ·rcases(by omega:i=0∨i=1) with rfl | rfl
  ·rw[if_pos rfl] at i3
   refine jaa (jap (by omega) (by omega)) ?_
   show Ret (chk (jak (z+ ((A.length:Nat):Int))) _) _
   refine jaa (jah (by omega) (by omega)) (jab (fun g=>?_) fun g=>jaa (by rfl) (ih _ ⟨by simp,by simp,?_⟩ (by simp)))
   ·change z+ ((A.length:Nat):Int)<0 at g
    omega
   ·show z+ ((A.length:Nat):Int)=if(1:Int)=0 then 0 else if(1:Int)=1 then(A.length:Int) else _
    rw[if_neg (by omega),if_pos rfl];omega
  ·rw[if_neg (by omega),if_pos rfl] at i3
   refine jaa (jap (by omega) (by omega)) ?_
   show Ret (chk (jak (z+ ((B.length:Nat):Int))) _) _
   refine jaa (jah (by omega) (by omega)) (jab (fun g=>?_) fun g=>jaa (by rfl) (ih _ ⟨by simp,by simp,?_⟩ (by simp)))
   ·change z+ ((B.length:Nat):Int)<0 at g
    omega
   ·show z+ ((B.length:Nat):Int)=if(2:Int)=0 then 0 else if(2:Int)=1 then(A.length:Int) else _
    rw[if_neg (by omega),if_neg (by omega)];omega
 ·rw[show i=2 by omega,if_neg (by omega),if_neg (by omega)] at i3
  unfold jil
  rw[jap (by simp only;omega) (by simp only;omega),cond_true,Option.bind_some]
  refine jan (Inv:=fun x:List Int×Int=>0≤x.2∧x.2≤2∧x.1=if x.2=0 then [] else if x.2=1 then A else A++B) (m:=fun x=>(2-x.2).toNat) ?_ _ _ ⟨by simp,by simp,by simp⟩ (by simp only[fuel];omega)
  rintro ⟨L,k⟩ rec2 ⟨j1,j2,j3⟩ ih2
  simp only at j1 j2 j3 ⊢
  refine jab (fun hlt2=>?_) fun hge2=>jaj (by rw[j3,if_neg (by omega),if_neg (by omega)])
  rcases(by omega:k=0∨k=1) with rfl | rfl
  ·rw[if_pos rfl] at j3
   subst j3
   refine jaa (jap (by omega) (by omega)) ?_
   show Ret (chk (jbm (([]:List Int).length+A.length)) (chk _ (rec2 ([]++A,_)))) _
   exact jaa (ja7 (by simp;omega)) (jaa (by rfl) (ih2 _ ⟨by simp,by simp,by simp⟩ (by simp)))
  ·rw[if_neg (by omega),if_pos rfl] at j3
   subst j3
   refine jaa (jap (by omega) (by omega)) ?_
   show Ret (chk (jbm (L.length+B.length)) (chk _ (rec2 (L++B,_)))) _
   exact jaa (ja7 (by omega)) (jaa (by rfl) (ih2 _ ⟨by simp,by simp,by simp⟩ (by simp)))
theorem jji {L:List Int} {k:Int} (hL:L.length≤1000) (h0:0≤k) (h1:k≤L.length):jc1 fuel (L,k)=some (L.drop k.toNat++L.take k.toNat):=by
 unfold jc1
 simp only
 have e1:((L.drop k.toNat).take (L.length-k.toNat))=L.drop k.toNat:=List.take_of_length_le (by simp)
 rw[jb9 (by simp[bnb];omega),jb9 (by simp[bnb];omega),e1,List.drop_zero,joo (by simp;omega) (by simp;omega),Option.bind_some]
 generalize L.drop k.toNat++L.take k.toNat=M
 rw[jb9 (by simp[bnb]),List.take_of_length_le (Nat.le_refl _),jb9 (by simp[jds])]
theorem jjy {A B:List Int} (hA:A.length≤1000) (hB:B.length≤1000):jbq fuel [A,B]=some (A++B):=by
 apply Ret.eq
 unfold jbq
 have l2:(([A,B]:List (List Int)).length:Int)=2:=rfl
 refine jan (Inv:=fun x:Int×Int=>0≤x.2∧x.2≤2∧x.1=if x.2=0 then(0:Int) else if x.2=1 then(A.length:Int) else A.length+B.length) (m:=fun x=>(2-x.2).toNat) ?_ _ _ ⟨by simp,by simp,by simp⟩ (by simp only[fuel];omega)
 rintro ⟨z,i⟩ rec ⟨i1,i2,i3⟩ ih
 simp only at i1 i2 i3 ⊢
 refine jab (fun hlt=>?_) fun hge=>?_
 ·rcases(by omega:i=0∨i=1) with rfl | rfl
  ·rw[if_pos rfl] at i3
   refine jaa (jap (by omega) (by omega)) ?_
   show Ret (chk (jak (z+ ((A.length:Nat):Int))) _) _
   refine jaa (jah (by omega) (by omega)) (jab (fun g=>?_) fun g=>jaa (by rfl) (ih _ ⟨by simp,by simp,?_⟩ (by simp)))
   ·change z+ ((A.length:Nat):Int)<0 at g
    omega
   ·show z+ ((A.length:Nat):Int)=if(1:Int)=0 then 0 else if(1:Int)=1 then(A.length:Int) else _
    rw[if_neg (by omega),if_pos rfl];omega
  ·rw[if_neg (by omega),if_pos rfl] at i3
   refine jaa (jap (by omega) (by omega)) ?_
   show Ret (chk (jak (z+ ((B.length:Nat):Int))) _) _
   refine jaa (jah (by omega) (by omega)) (jab (fun g=>?_) fun g=>jaa (by rfl) (ih _ ⟨by simp,by simp,?_⟩ (by simp)))
   ·change z+ ((B.length:Nat):Int)<0 at g
    omega
   ·show z+ ((B.length:Nat):Int)=if(2:Int)=0 then 0 else if(2:Int)=1 then(A.length:Int) else _
    rw[if_neg (by omega),if_neg (by omega)];omega
 ·rw[show i=2 by omega,if_neg (by omega),if_neg (by omega)] at i3
  unfold jeu
  rw[jap (by simp only;omega) (by simp only;omega),cond_true,Option.bind_some]
  refine jan (Inv:=fun x:List Int×Int=>0≤x.2∧x.2≤2∧x.1=if x.2=0 then [] else if x.2=1 then A else A++B) (m:=fun x=>(2-x.2).toNat) ?_ _ _ ⟨by simp,by simp,by simp⟩ (by simp only[fuel];omega)
  rintro ⟨L,k⟩ rec2 ⟨j1,j2,j3⟩ ih2
  simp only at j1 j2 j3 ⊢
  refine jab (fun hlt2=>?_) fun hge2=>jaj (by rw[j3,if_neg (by omega),if_neg (by omega)])
  rcases(by omega:k=0∨k=1) with rfl | rfl
  ·rw[if_pos rfl] at j3
   subst j3
   refine jaa (jap (by omega) (by omega)) ?_
   show Ret (chk (jbm (([]:List Int).length+A.length)) (chk _ (rec2 ([]++A,_)))) _
   exact jaa (ja7 (by simp;omega)) (jaa (by rfl) (ih2 _ ⟨by simp,by simp,by simp⟩ (by simp)))
  ·rw[if_neg (by omega),if_pos rfl] at j3
   subst j3
   refine jaa (jap (by omega) (by omega)) ?_
   show Ret (chk (jbm (L.length+B.length)) (chk _ (rec2 (L++B,_)))) _
   exact jaa (ja7 (by omega)) (jaa (by rfl) (ih2 _ ⟨by simp,by simp,by simp⟩ (by simp)))
theorem jf1 {L:List Int} {k:Int} (hL:L.length≤1000) (h0:0≤k) (h1:k≤L.length):jbk fuel (L,k)=some (L.drop k.toNat++L.take k.toNat):=by
 unfold jbk
 simp only
 have e1:((L.drop k.toNat).take (L.length-k.toNat))=L.drop k.toNat:=List.take_of_length_le (by simp)
 rw[jb9 (by simp[bnb];omega),jb9 (by simp[bnb];omega),e1,List.drop_zero,jjy (by simp;omega) (by simp;omega),Option.bind_some]
 generalize L.drop k.toNat++L.take k.toNat=M
 rw[jb9 (by simp[bnb]),List.take_of_length_le (Nat.le_refl _),jb9 (by simp[jds])]
def jt0 (L:List Int) (k:Nat):List Int:=L.drop k++L.take k
theorem jf0 {L:List Int} {k:Nat} (h:k≤L.length):(jt0 L k).length=L.length:=by simp[jt0];omega
theorem jke {L:List Int} {k i:Nat} (h:k<L.length) (hi:i<L.length):(jt0 L k).getD i 0=L.getD (rot L.length k i) 0:=by
 unfold jt0 rot
 rw[List.getD,List.getD]
 by_cases c:k+i<L.length
 ·rw[if_pos c,List.getElem?_append_left (by simp;omega),List.getElem?_drop]
 ·rw[if_neg c,List.getElem?_append_right (by simp;omega),List.getElem?_take,if_pos (by simp;omega),List.length_drop]
  congr 2
  omega
theorem j6v {L:List Int} {k:Nat} {x:Int}:x∈jt0 L k↔x∈L:=by
 rw[jt0,List.mem_append,or_comm,←List.mem_append,List.take_append_drop]
theorem kcf {L:List Int} {k:Nat} (hk:k<L.length) (e:k%2=0) (en:L.length%2=0) (hc:eR L L.length=0):∀i,i≤L.length→eR (jt0 L k) i=eR L (rot L.length k i)-eR L k
 | 0,_=>by
   rw[show rot L.length k 0=k by unfold rot;rw[if_pos (by omega)];rfl]
   show(0:Int)=_
   omega
 | i+1,hi=>by
   have ih:=kcf hk e en hc i (by omega)
   have g:=jke hk (i:=i) (by omega)
   have rl:=j6u (n:=L.length) hk (k:=i) (by omega)
   have rp:(rot L.length k i)%2=i%2:=by unfold rot;split<;>omega
   have st:eR L (rot L.length k (i+1))=eR L (rot L.length k i+1):=by
    unfold rot
    by_cases c:k+i<L.length
    ·rw[if_pos c]
     by_cases c2:k+ (i+1)<L.length
     ·rw[if_pos c2];rfl
     ·rw[if_neg c2,show k+ (i+1)-L.length=0 by omega,show k+i+1=L.length by omega,hc];rfl
    ·rw[if_neg c,if_neg (by omega)]
     congr 1
     omega
   rw[st]
   rcases Nat.mod_two_eq_zero_or_one i with c | c
   ·rw[jno c,jno (i:=rot L.length k i) (by omega),ih,g];omega
   ·rw[jr5 c,jr5 (i:=rot L.length k i) (by omega),ih,g];omega
def jhf (s:List Int×List Int) (k:Nat):List Int×List Int:=(jt0 s.1 k,jt0 s.2 k)
theorem RValid.turn {s:List Int×List Int} (h:RValid s) {k:Nat} (hk:k<s.1.length) (e:k%2=0):RValid (jhf s k):=by
 have hkl:=h.kl
 have l1:(jhf s k).1.length=s.1.length:=jf0 (by omega)
 have l2:(jhf s k).2.length=s.2.length:=jf0 (by omega)
 refine⟨by rw[l1];exact h.le,by rw[l1];exact h.two,by rw[l1];exact h.even,by rw[l1,l2];exact hkl,fun x hx=>h.lens x (j6v.1 hx),fun x hx=>h.kinds x (j6v.1 hx),?_⟩
 rw[l1]
 show eR (jt0 s.1 k) s.1.length=0
 rw[kcf hk e h.even h.closed _ (Nat.le_refl _),show rot s.1.length k s.1.length=k by unfold rot;rw[if_neg (by omega)];omega]
 omega
structure RIso (E E':List Int) (n:Nat) (f f' τ:Int→Int) (c:Int):Prop where
 rng:∀i:Int,0≤i→i<n→0≤τ i∧τ i<n
 inj:∀i j:Int,0≤i→i<n→0≤j→j<n→τ i=τ j→i=j
 sc:∀i:Int,0≤i→i<n→sc n (τ i)=τ (sc n i)
 a:∀i:Int,0≤i→i<n→E'.getD i.toNat 0=E.getD (τ i).toNat 0-c
 b:∀i:Int,0≤i→i<n→E'.getD (i.toNat+1) 0=E.getD ((τ i).toNat+1) 0-c
 f:∀i:Int,0≤i→i<n→f' i=f (τ i)
section
variable {E E':List Int} {n:Nat} {f f' τ:Int→Int} {c:Int} (h:RIso E E' n f f' τ c)
include h
theorem RIso.bet {i x:Int} (i0:0≤i) (i1:i<n) (x0:0≤x) (x1:x<n):jk8 n f' i x↔jk8 n f (τ i) (τ x):=by
 have s0:0≤X.sc n i∧X.sc n i<n:=by unfold X.sc;split<;>omega
 unfold jk8
 rw[h.f i i0 i1,h.f x x0 x1,h.f _ s0.1 s0.2,h.sc i i0 i1]
theorem RIso.cross (hc:jdz E' n f'):jdz E n f:=by
 obtain⟨i,i0,i1,hc⟩:=hc
 have ri:=h.rng i i0 i1
 have ai:=h.a i i0 i1;have bi:=h.b i i0 i1
 refine⟨τ i,ri.1,ri.2,?_⟩
 rcases hc with⟨j,j0,j1,e1,e2,e3⟩ | ⟨j,j0,j1,e1,e2,e3,e5⟩
 ·have rj:=h.rng j j0 j1
  have aj:=h.a j j0 j1;have bj:=h.b j j0 j1
  refine .inl ⟨τ j,rj.1,rj.2,?_,?_,(h.bet i0 i1 j0 j1).1 e3⟩
  ·unfold frm at *;omega
  ·unfold too at *;omega
 ·have rj:=h.rng j j0 j1
  have aj:=h.a j j0 j1;have bj:=h.b j j0 j1
  have s0:0≤X.sc n j∧X.sc n j<n:=by unfold X.sc;split<;>omega
  refine .inr ⟨τ j,rj.1,rj.2,fun e=>e1 (h.inj _ _ j0 j1 i0 i1 e),by omega,by omega,?_⟩
  rw[←h.bet i0 i1 j0 j1,h.sc j j0 j1,←h.bet i0 i1 s0.1 s0.2]
  exact e5
theorem RIso.wrong {K K':List Int} (hK:∀i:Int,0≤i→i<n→K'.getD i.toNat 0=K.getD (τ i).toNat 0∧(τ i)%2=i%2) (hw:jny K' n f'):jny K n f:=by
 obtain⟨i,i0,i1,e1,e2⟩:=hw
 have ri:=h.rng i i0 i1
 have hk:=hK i i0 i1
 have s0:0≤X.sc n i∧X.sc n i<n:=by unfold X.sc;split<;>omega
 refine⟨τ i,ri.1,ri.2,by rw[←hk.1];exact e1,?_⟩
 rw[←hk.1]
 refine fun e=>e2 (e.trans ?_)
 unfold je1
 rw[hk.2,h.sc i i0 i1,h.f i i0 i1,h.f _ s0.1 s0.2]
theorem RIso.ovl {i j:Int} (i0:0≤i) (i1:i<n) (j0:0≤j) (j1:j<n):ovl E' i.toNat j.toNat=X.ovl E (τ i).toNat (τ j).toNat:=by
 have ai:=h.a i i0 i1;have bi:=h.b i i0 i1
 have aj:=h.a j j0 j1;have bj:=h.b j j0 j1
 rw[Bool.eq_iff_iff,j83,j83]
 unfold frm too
 omega
end
def j9z (n k:Nat) (i:Int):Int:=if i+k<n then i+k else i+k-n
def kd6 (n k:Nat) (x:Int):Int:=if(k:Int)≤x then x-k else x-k+n
theorem kac {n k:Nat} (hk:k<n) {x:Int} (h0:0≤x) (h1:x<n):j9z n k (kd6 n k x)=x∧0≤kd6 n k x∧kd6 n k x<n:=by
 unfold kd6 j9z;split<;>(split<;>omega)
theorem jpp {n k:Nat} (hk:k<n) {x:Int} (h0:0≤x) (h1:x<n):kd6 n k (j9z n k x)=x∧0≤j9z n k x∧j9z n k x<n:=by
 unfold kd6 j9z;split<;>(split<;>omega)
theorem jzp {n:Nat} {p:List Int} (hp:Ord n p) {ρ τ:Int→Int} (h1:∀x:Int,0≤x→x<n→ρ (τ x)=x∧0≤τ x∧τ x<n):Ord n (p.map ρ)∧∀x:Int,0≤x→x<n→rkF (p.map ρ) x=rkF p (τ x):=by
 have ho:Ord n (p.map ρ):=j65 (by rw[List.length_map,hp.len]) fun i hi=>by
  have:=h1 i (by omega) (by omega)
  exact List.mem_map.2 ⟨τ i,hp.memI this.2.1 this.2.2,this.1⟩
 refine⟨ho,fun x x0 x1=>?_⟩
 have hx:=h1 x x0 x1
 obtain⟨a,b,c⟩:=jjs (hp.memI hx.2.1 hx.2.2)
 have:=jvu ho.nodup (i:=(rkF p (τ x)).toNat) (by rw[List.length_map];exact a)
 rw[List.getD,List.getElem?_map,List.getElem?_eq_getElem a] at this
 rw[List.getD,List.getElem?_eq_getElem a] at b
 simp only[Option.map_some,Option.getD_some] at this b
 rw[b,hx.1] at this
 omega
theorem jzd {s:List Int×List Int} (h:RValid s) {k:Nat} (hk:k<s.1.length) (e:k%2=0) {p:List Int} (hp:Ord s.1.length p):
  RIso (ja9 s.1) (ja9 (jhf s k).1) s.1.length (rkF p) (rkF (p.map (kd6 s.1.length k))) (j9z s.1.length k) (eR s.1 k):=by
 have hn:=h.two
 have l1:(jhf s k).1.length=s.1.length:=jf0 (by omega)
 have re:∀i,i≤s.1.length→(ja9 (jhf s k).1).getD i 0=eR s.1 (rot s.1.length k i)-eR s.1 k:=fun i hi=>by
  rw[jea (by omega)]
  exact kcf hk e h.even h.closed i hi
 have tn:∀i:Int,0≤i→i<s.1.length→(j9z s.1.length k i).toNat=rot s.1.length k i.toNat:=fun i a b=>by
  unfold j9z rot
  split<;>split<;>omega
 refine⟨fun i i0 i1=>(jpp hk i0 i1).2,fun i j i0 i1 j0 j1 ee=>?_,fun i i0 i1=>?_,fun i i0 i1=>?_,fun i i0 i1=>?_,(jzp hp fun x x0 x1=>jpp hk x0 x1).2⟩
 ·rw[←(jpp hk i0 i1).1,←(jpp hk j0 j1).1,ee]
 ·unfold j9z sc
  split<;>split<;>split<;>omega
 ·rw[re _ (by omega),tn i i0 i1,jea (by have:=j6u (n:=s.1.length) hk (k:=i.toNat) (by omega);omega)]
 ·rw[re _ (by omega),tn i i0 i1,jea (by have:=j6u (n:=s.1.length) hk (k:=i.toNat) (by omega);omega)]
  congr 1
  unfold rot
  by_cases c:k+i.toNat<s.1.length
  ·rw[if_pos c]
   by_cases c2:k+ (i.toNat+1)<s.1.length
   ·rw[if_pos c2];rfl
   ·rw[if_neg c2,show k+ (i.toNat+1)-s.1.length=0 by omega,show k+i.toNat+1=s.1.length by omega,h.closed];rfl
  ·rw[if_neg c,if_neg (by omega)]
   congr 1
   omega
theorem VPile.turn {s:List Int×List Int} (h:RValid s) {k:Nat} (hk:k<s.1.length) (e:k%2=0) {p:List Int} (hp:VPile s p):VPile (jhf s k) (p.map (kd6 s.1.length k)):=by
 have hkl:=h.kl
 have hn:=h.even
 have l1:(jhf s k).1.length=s.1.length:=jf0 (by omega)
 have io:=jzd h hk e hp.ord
 refine⟨by rw[l1];exact(jzp hp.ord fun x x0 x1=>jpp hk x0 x1).1,(fun c=>hp.nc (io.cross (by rw[l1] at c;exact c))),(fun c=>hp.nw (io.wrong (fun i i0 i1=>?_) (by rw[l1] at c;exact c)))⟩
 constructor
 ·show(jt0 s.2 k).getD i.toNat 0=_
  rw[jke (by omega) (by omega),hkl]
  congr 1
  unfold j9z rot
  split<;>split<;>omega
 ·unfold j9z;split<;>omega
theorem j93 {s t:List Int×List Int} (hs:RValid s) (ht:RValid t) (hn:t.1.length=s.1.length) {φ:List Int→List Int} (h1:∀p,VPile s p→VPile t (φ p))
  (h2:∀p q,Ord s.1.length p→Ord s.1.length q→SameP (ja9 t.1) s.1.length (φ p) (φ q)→SameP (ja9 s.1) s.1.length p q) {L M:List (List Int)} (hL:WaysL s L) (hM:WaysL t M):L.length≤M.length:=by
 classical
 have ex:∀p,VPile s p→∃l:List Int,l.length=t.1.length∧Greedy (ja9 t.1) t.1.length (φ p) l:=fun p hp=>by
  obtain⟨l,_,a,b⟩:=jby ht (h1 p hp).ord
  exact⟨l,a,b⟩
 let g:List Int→List Int:=fun p=>if h:VPile s p then Classical.choose (ex p h) else []
 have hg:∀p (h:VPile s p),(g p).length=t.1.length∧Greedy (ja9 t.1) t.1.length (φ p) (g p):=fun p h=>by
  have:=Classical.choose_spec (ex p h)
  simp only[g,dif_pos h]
  exact this
 rw[←List.length_map (f:=g)]
 refine jkq ?_ fun l hl=>?_
 ·rw[List.Nodup,List.pairwise_map]
  have:L.Pairwise fun a b=>a∈L∧b∈L∧je2 a b<0:=by
   rw[List.pairwise_iff_getElem]
   intro i j hi hj hij
   exact⟨List.getElem_mem _,List.getElem_mem _,List.pairwise_iff_getElem.1 hL.srt i j hi hj hij⟩
  refine this.imp fun {a b} ⟨ha,hb,hab⟩ e=>?_
  have wa:=(hL.mem a).1 ha
  have wb:=(hL.mem b).1 hb
  obtain⟨a1,a2⟩:=hg a wa.vp
  obtain⟨b1,b2⟩:=hg b wb.vp
  have sa:=a2.same (h1 a wa.vp).ord a1
  have sb:=b2.same (h1 b wb.vp).ord b1
  rw[e] at sa
  rw[hn] at sa sb
  have sab:=h2 a b wa.vp.ord wb.vp.ord (sa.tr sb.sy)
  have:=wa.gr.unique wb.gr wa.vp.ord wb.vp.ord wa.vp.ord.len wb.vp.ord.len sab
  rw[this,jkz] at hab
  omega
 ·obtain⟨p,hp,rfl⟩:=List.mem_map.1 hl
  have wp:=(hL.mem p).1 hp
  obtain⟨a1,a2⟩:=hg p wp.vp
  exact(hM.mem _).2 (kfq ht (h1 p wp.vp) a1 a2)
theorem kab {s:List Int×List Int} (h:RValid s) {k:Nat} (hk:k<s.1.length) (e:k%2=0) {L M:List (List Int)} (hL:WaysL s L) (hM:WaysL (jhf s k) M):L.length≤M.length:=by
 have l1:(jhf s k).1.length=s.1.length:=jf0 (by omega)
 refine j93 h (h.turn hk e) l1 (φ:=fun p=>p.map (kd6 s.1.length k)) (fun p hp=>hp.turn h hk e) (fun p q hp hq hs i j h0 h1 h2 ho=>?_) hL hM
 have ip:=jzd h hk e hp
 have iq:=jzd h hk e hq
 obtain⟨t1,t2,t3⟩:=kac hk (x:=i) (by omega) h2
 obtain⟨u1,u2,u3⟩:=kac hk (x:=j) h0 (by omega)
 have op:=(jzp hp fun x x0 x1=>jpp (k:=k) hk x0 x1)
 have oq:=(jzp hq fun x x0 x1=>jpp (k:=k) hk x0 x1)
 have:=hs.all op.1 oq.1 t2 t3 u2 u3 (by rw[ip.ovl t2 t3 u2 u3,t1,u1];exact ho)
 rw[op.2 _ t2 t3,op.2 _ u2 u3,oq.2 _ t2 t3,oq.2 _ u2 u3,t1,u1] at this
 exact this
theorem jq5 (L:List Int):jt0 L 0=L:=by simp[jt0]
theorem j2c {L:List Int} {k:Nat} (h:k≤L.length):jt0 (jt0 L k) (L.length-k)=L:=by
 unfold jt0
 rw[List.drop_left' (by simp),List.take_left' (by simp),List.take_append_drop]
theorem j8p {s:List Int×List Int} (h:RValid s) {k:Nat} (hk:k<s.1.length) (e:k%2=0) {L M:List (List Int)} (hL:WaysL s L) (hM:WaysL (jhf s k) M):L.length=M.length:=by
 have hkl:=h.kl
 have he:=h.even
 refine Nat.le_antisymm (kab h hk e hL hM) ?_
 by_cases k0:k=0
 ·subst k0
  have:jhf s 0=s:=by unfold jhf;rw[jq5,jq5]
  rw[this] at hM
  rw[jvj hM.srt hL.srt fun x=>(hM.mem x).trans (hL.mem x).symm]
  exact Nat.le_refl _
 ·have l1:(jhf s k).1.length=s.1.length:=jf0 (by omega)
  have back:jhf (jhf s k) (s.1.length-k)=s:=by
   unfold jhf
   simp only
   rw[j2c (by omega),←hkl,j2c (by omega)]
  have:=kab (h.turn hk e) (k:=s.1.length-k) (by omega) (by omega) hM (M:=L) (by rw[back];exact hL)
  exact this
def ovK (x:Int):Int:=if x=3 then 3 else 3-x
def ji1 (s:List Int×List Int):List Int×List Int:=(s.1,s.2.map ovK)
theorem kbe {x:Int} (h:1≤x∧x≤3):(1≤ovK x∧ovK x≤3)∧ovK (ovK x)=x∧(ovK x=3↔x=3):=by unfold ovK;split<;>split<;>omega
theorem RValid.over {s:List Int×List Int} (h:RValid s):RValid (ji1 s):=
 ⟨h.le,h.two,h.even,by simp only[ji1,List.length_map];exact h.kl,h.lens,(fun x hx=>by obtain⟨y,hy,rfl⟩:=List.mem_map.1 hx;exact(kbe (h.kinds y hy)).1),h.closed⟩
theorem jyn {s:List Int×List Int} (h:RValid s):ji1 (ji1 s)=s:=by
 unfold ji1
 simp only[List.map_map]
 refine Prod.ext rfl ?_
 conv=>rhs;rw[←List.map_id s.2]
 exact List.map_congr_left fun x hx=>(kbe (h.kinds x hx)).2.1
theorem j4x {n:Nat} {p:List Int} (hp:Ord n p):Ord n p.reverse∧∀x:Int,0≤x→x<n→rkF p.reverse x=n-1-rkF p x:=by
 have ho:Ord n p.reverse:=(List.reverse_perm p).trans hp
 refine⟨ho,fun x x0 x1=>?_⟩
 obtain⟨a,b,c⟩:=jjs (hp.memI x0 x1)
 have hl:=hp.len
 have:=jvu ho.nodup (i:=n-1-(rkF p x).toNat) (by rw[List.length_reverse];omega)
 rw[List.getD,List.getElem?_reverse (by omega),show p.length-1-(n-1-(rkF p x).toNat)=(rkF p x).toNat by omega] at this
 rw[List.getD] at b
 rw[b] at this
 omega
theorem VPile.over {s:List Int×List Int} (h:RValid s) {p:List Int} (hp:VPile s p):VPile (ji1 s) p.reverse:=by
 obtain⟨ho,hr⟩:=j4x hp.ord
 have hkl:=h.kl
 have ss:∀j:Int,0≤j→j<s.1.length→0≤sc s.1.length j∧sc s.1.length j<s.1.length:=fun j a b=>by unfold sc;split<;>omega
 have bet:∀i x:Int,0≤i→i<s.1.length→0≤x→x<s.1.length→(jk8 s.1.length (rkF p.reverse) i x↔jk8 s.1.length (rkF p) i x):=fun i x i0 i1 x0 x1=>by
  unfold jk8
  rw[hr i i0 i1,hr x x0 x1,hr _ (ss i i0 i1).1 (ss i i0 i1).2]
  omega
 refine⟨ho,(fun c=>hp.nc ?_),(fun c=>hp.nw ?_)⟩
 ·obtain⟨i,i0,i1,hc⟩:=c
  refine⟨i,i0,i1,?_⟩
  rcases hc with⟨j,j0,j1,e1,e2,e3⟩ | ⟨j,j0,j1,e1,e2,e3,e5⟩
  ·exact .inl ⟨j,j0,j1,e1,e2,(bet i j i0 i1 j0 j1).1 e3⟩
  ·refine .inr ⟨j,j0,j1,e1,e2,e3,?_⟩
   rw[←bet i j i0 i1 j0 j1,←bet i _ i0 i1 (ss j j0 j1).1 (ss j j0 j1).2]
   exact e5
 ·obtain⟨i,i0,i1,e1,e2⟩:=c
  change 0≤i at i0
  change i<s.1.length at i1
  have gk:(s.2.map ovK).getD i.toNat 0=ovK (s.2.getD i.toNat 0):=by
   rw[List.getD,List.getD,List.getElem?_map,List.getElem?_eq_getElem (by omega)]
   rfl
  have hk:=h.kinds _ (jau (L:=s.2) (i:=i.toNat) (by omega))
  have:=kbe hk
  change (s.2.map ovK).getD i.toNat 0≠3 at e1
  change (s.2.map ovK).getD i.toNat 0≠je1 s.1.length (rkF p.reverse) i at e2
  rw[gk] at e1 e2
  have si:=ss i i0 i1
  have hne:rkF p i≠rkF p (sc s.1.length i):=fun ee=>by
   have:=jim (hp.ord.memI i0 i1) (hp.ord.memI si.1 si.2) ee
   have:=(h.ends.sc_lt i0 i1).2.2.1
   omega
  refine⟨i,i0,i1,fun g=>e1 (this.2.2.2 g),fun g=>e2 ?_⟩
  unfold je1 at g ⊢
  rw[hr i i0 i1,hr _ si.1 si.2]
  have k3:s.2.getD i.toNat 0≠3:=fun g=>e1 (this.2.2.2 g)
  rw[ovK,if_neg k3]
  by_cases c:i%2=0
  ·rw[if_pos c] at g ⊢
   by_cases d:rkF p i<rkF p (sc s.1.length i)
   ·rw[if_pos d] at g;rw[if_neg (by omega)];omega
   ·rw[if_neg d] at g;rw[if_pos (by omega)];omega
  ·rw[if_neg c] at g ⊢
   by_cases d:rkF p (sc s.1.length i)<rkF p i
   ·rw[if_pos d] at g;rw[if_neg (by omega)];omega
   ·rw[if_neg d] at g;rw[if_pos (by omega)];omega
theorem kbd {s:List Int×List Int} (h:RValid s) {L M:List (List Int)} (hL:WaysL s L) (hM:WaysL (ji1 s) M):L.length≤M.length:=by
 refine j93 h h.over rfl (φ:=List.reverse) (fun p hp=>hp.over h) (fun p q hp hq hs i j h0 h1 h2 ho=>?_) hL hM
 obtain⟨op,rp⟩:=j4x hp
 obtain⟨oq,rq⟩:=j4x hq
 have:=hs.all op oq (i:=j) (k:=i) h0 (by omega) (by omega) h2 (by rw[jjk];exact ho)
 rw[rp i (by omega) h2,rp j h0 (by omega),rq i (by omega) h2,rq j h0 (by omega)] at this
 omega
theorem j84 {s:List Int×List Int} (h:RValid s) {L M:List (List Int)} (hL:WaysL s L) (hM:WaysL (ji1 s) M):L.length=M.length:=
 Nat.le_antisymm (kbd h hL hM) (kbd h.over hM (by rw[jyn h];exact hL))
end X
end Go.Vm
namespace Go.Vm
namespace X
open W Go.Proofs.St
theorem jzt {s:List Int×List Int} (h:RValid s) {by_:Int}:jh5 fuel (s,by_)=some (if 0≤by_∧by_<s.1.length∧by_%2=0 then(jhf s by_.toNat,0) else(([],[]),1)):=by
 have hn:=h.le
 have hkl:=h.kl
 apply Ret.eq
 unfold jh5
 rw[show ja3 fuel (s.1,s.2)=some 0 from jdo h,Option.bind_some]
 refine jab (fun g=>absurd rfl g) fun _=>?_
 refine jab (fun g=>jaj (by rw[if_neg (by simp only at g;omega)])) fun g=>?_
 refine jab (fun g2=>jaj (by rw[if_neg (by simp only at g2;omega)])) fun g2=>?_
 simp only at g g2
 refine jaa (by simp;omega) (jab (fun g3=>jaj (by rw[if_neg (by simp only at g3;omega)])) fun g3=>?_)
 simp only at g3 ⊢
 rw[jji (by omega) (by omega) (by omega),Option.bind_some,jf1 (by omega) (by omega) (by omega),Option.bind_some,if_pos (by omega)]
 exact jaa (by simp[jds]) (jaj rfl)
theorem jrc {s:List Int×List Int} (h:RValid s) {by_:Int}:jdn fuel (s,by_)=some (if 0≤by_∧by_<s.1.length then((jt0 s.1 (sc s.1.length by_).toNat,(jt0 s.2 (sc s.1.length by_).toNat).take (s.1.length-1)),0) else(([],[]),1)):=by
 have hn:=h.le
 have h2:=h.two
 have hkl:=h.kl
 apply Ret.eq
 unfold jdn
 rw[show ja3 fuel (s.1,s.2)=some 0 from jdo h,Option.bind_some]
 refine jab (fun g=>absurd rfl g) fun _=>?_
 refine jab (fun g=>jaj (by rw[if_neg (by simp only at g;omega)])) fun g=>?_
 refine jab (fun g2=>jaj (by rw[if_neg (by simp only at g2;omega)])) fun g2=>?_
 simp only at g g2 ⊢
 obtain⟨s0,s1,_,_⟩:=h.ends.sc_lt (i:=by_) (by omega) (by omega)
 rw[show jcv fuel (s.1,s.2)=_ from jio h,Option.bind_some,show jat fuel (((s.1,s.2),ja9 s.1),by_)=some (sc s.1.length by_) from jd5 hn (by omega) (by omega),Option.bind_some,
  jji (by omega) s0 (by omega),Option.bind_some,jf1 (by omega) s0 (by omega),Option.bind_some,if_pos (by omega)]
 have l2:(s.2.drop (sc s.1.length by_).toNat++s.2.take (sc s.1.length by_).toNat).length=s.2.length:=jf0 (L:=s.2) (by omega)
 have e1:((s.2.length:Nat):Int)-1=((s.1.length-1:Nat):Int):=by omega
 rw[e1]
 refine jaa (jah (by omega) (by omega)) (jaa (by rw[l2];simp[bnb];omega) (jaa (by simp[bnb]) ?_))
 rw[Int.toNat_natCast]
 refine jaa ?_ (jaj rfl)
 simp only[jds,List.length_take,l2]
 simp
 omega
theorem j7l {L:List Int} {g:Int→Int} {i:Nat} (h:i<L.length):(L.map g).getD i 0=g (L.getD i 0):=by
 rw[List.getD,List.getD,List.getElem?_map,List.getElem?_eq_getElem h];rfl
theorem jrb {s:List Int×List Int} (h:RValid s):jfn fuel s=some (ji1 s):=by
 have hn:=h.le
 have hkl:=h.kl
 apply Ret.eq
 unfold jfn jas ja4
 rw[jb9 (ja7 (by omega)),Option.bind_some,List.nil_append]
 refine jaa (by simp[bnb]) ?_
 rw[jb9 (ja7 (by omega)),Option.bind_some,List.nil_append]
 refine jaa (by simp[bnb]) ?_
 refine jan (Inv:=fun x:Int×(List Int×Option Nat)=>0≤x.1∧x.1≤s.2.length∧x.2.1.length=s.2.length∧x.2.2=none∧∀k:Nat,k<s.2.length→x.2.1.getD k 0=if(k:Int)<x.1 then ovK (s.2.getD k 0) else s.2.getD k 0) (m:=fun x=>((s.2.length:Int)-x.1).toNat) ?_ _ _ ⟨by simp,by simp,rfl,rfl,fun k hk=>by rw[if_neg (by simp only;omega)]⟩ (by simp only[fuel];omega)
 rintro ⟨i,K,cp⟩ rec ⟨i1,i2,i3,i4,i5⟩ ih
 simp only at i1 i2 i3 i4 i5 ⊢
 subst i4
 refine jab (fun hlt=>?_) fun hge=>?_
 ·have hin:=jap (i:=i) (n:=s.2.length) (by omega) (by omega)
  have hx:=h.kinds _ (jau (L:=s.2) (i:=i.toNat) (by omega))
  have hv:=i5 i.toNat (by omega)
  rw[if_neg (by omega)] at hv
  rw[Nat.zero_add]
  rw[hv]
  have nxt:∀K':List Int,K'.length=s.2.length→(∀k:Nat,k<s.2.length→K'.getD k 0=if k=i.toNat then ovK (s.2.getD i.toNat 0) else K.getD k 0)→Ret (chk (jak (i+1)) (rec (i+1,(K',none)))) (fun x=>x=ji1 s):=fun K' l1 l2=>by
   refine jaa (jah (by omega) (by omega)) (ih _ ⟨by simp only;omega,by simp only;omega,l1,rfl,fun k hk=>?_⟩ (by simp only;omega))
   simp only
   rw[l2 k hk]
   by_cases e:k=i.toNat
   ·subst e;rw[if_pos rfl,if_pos (by omega)]
   ·rw[if_neg e,i5 k hk]
    by_cases e2:(k:Int)<i
    ·rw[if_pos e2,if_pos (by omega)]
    ·rw[if_neg e2,if_neg (by omega)]
  refine jaa hin (jab (fun g=>?_) fun g=>jab (fun g2=>?_) fun g2=>?_)
  ·refine jaa hin (nxt _ (by rw[List.length_set];exact i3) fun k hk=>?_)
   rw[jlr (by omega)]
   split
   ·rw[g];rfl
   ·rfl
  ·refine jaa hin (nxt _ (by rw[List.length_set];exact i3) fun k hk=>?_)
   rw[jlr (by omega)]
   split
   ·rw[g2];rfl
   ·rfl
  ·refine nxt _ i3 fun k hk=>?_
   split
   ·next e=>
    subst e
    rw[hv,show s.2.getD i.toNat 0=3 by omega];rfl
   ·rfl
 ·have eK:K=s.2.map ovK:=jr2 (by rw[List.length_map];exact i3) fun k hk=>by
   rw[j7l (by omega),i5 k (by omega),if_pos (by omega)]
  refine jaa ?_ (jaj ?_)
  ·rw[List.take_of_length_le (Nat.le_refl _),List.take_of_length_le (by omega)]
   simp[jds,i3]
  ·rw[List.take_of_length_le (Nat.le_refl _),List.take_of_length_le (by omega),eK];rfl
theorem jz5 {n:Nat} {a i:Int} (h0:0≤a) (h1:a≤n) (h2:0≤i) (h3:i<n) (hn:0<n):(a+i)% ((n:Nat):Int)=(rot n a.toNat i.toNat:Nat):=by
 unfold rot
 by_cases c:a+i<n
 ·rw[Int.emod_eq_of_lt (by omega) c,if_pos (by omega)];omega
 ·rw[show a+i=(a+i-n)+n*1 by omega,Int.add_mul_emod_self_left,Int.emod_eq_of_lt (by omega) (by omega),if_neg (by omega)];omega
theorem kfv {n:Nat} {a i:Int} (h0:0≤a) (h1:a<n) (h2:0≤i) (h3:i<n):rot n (sc n a).toNat i.toNat=rot n (a+1).toNat i.toNat:=by
 unfold sc rot
 repeat' split
 all_goals omega
set_option maxRecDepth 100000 in
set_option maxHeartbeats 2000000 in
theorem jox {a0 a1:List Int} {l by_:Int} (h0:bytes a0) (h1:bytes a1) (hl:0≤l∧l≤255) (hb: -9223372036854775808≤by_∧by_≤9223372036854775807):jd8 fuel (((a0,a1),(l,())),by_)=some true:=by
 apply Ret.eq
 unfold jd8
 refine jax (jf5 (a:=((a0,a1),(l,()))) h0 h1 hl) fun s ⟨h,h8,_⟩=>?_
 have hn:=h.le
 have h2:=h.two
 have he:=h.even
 have hkl:=h.kl
 have fin:Ret ((ja0 fuel ()).bind fun r5=>some r5) (fun x=>x=true):=by rw[js5];exact jaj rfl
 simp only
 rw[show jh5 fuel ((s.1,s.2),by_)=_ from jzt h,Option.bind_some,show jdn fuel ((s.1,s.2),by_)=_ from jrc h,Option.bind_some,show jfn fuel (s.1,s.2)=some (ji1 s) from jrb h,Option.bind_some]
 refine jab (fun g=>?_) fun g=>?_
 ·rw[if_neg (by omega),if_neg (by omega)]
  refine jab (fun _=>?_) fun g=>absurd rfl g
  refine jab (fun _=>?_) fun g=>absurd rfl g
  exact jaa (by rfl) (jab (fun _=>fin) fun g=>absurd rfl g)
 refine jab (fun g2=>?_) fun g2=>?_
 ·rw[if_neg (by omega),if_neg (by omega)]
  refine jab (fun _=>?_) fun g=>absurd rfl g
  refine jab (fun _=>?_) fun g=>absurd rfl g
  exact jaa (by rfl) (jab (fun _=>fin) fun g=>absurd rfl g)
 rw[if_pos (show 0≤by_∧by_<s.1.length by omega)]
 obtain⟨s0,s1,_,_⟩:=h.ends.sc_lt (i:=by_) (by omega) (by omega)
 have lo1:(jt0 s.1 (sc s.1.length by_).toNat).length=s.1.length:=jf0 (by omega)
 have lo2:((jt0 s.2 (sc s.1.length by_).toNat).take (s.1.length-1)).length=s.1.length-1:=by rw[List.length_take,jf0 (by omega)];omega
 have go1:∀i:Int,0≤i→i<s.1.length→(jt0 s.1 (sc s.1.length by_).toNat).getD i.toNat 0=s.1.getD ((by_+1+i)% ((s.1.length:Nat):Int)).toNat 0:=fun i i0 i1=>by
  rw[jke (by omega) (by omega),jz5 (by omega) (by omega) i0 i1 (by omega)]
  rw[Int.toNat_natCast]
  congr 1
  exact kfv (by omega) (by omega) i0 (by omega)
 have go2:∀i:Int,0≤i→i< (s.1.length:Int)-1→((jt0 s.2 (sc s.1.length by_).toNat).take (s.1.length-1)).getD i.toNat 0=s.2.getD ((by_+1+i)% ((s.1.length:Nat):Int)).toNat 0:=fun i i0 i1=>by
  have:=jke (L:=s.2) (k:=(sc s.1.length by_).toNat) (i:=i.toNat) (by omega) (by omega)
  rw[List.getD] at this ⊢
  rw[List.getElem?_take,if_pos (by omega),this,jz5 (by omega) (by omega) i0 (by omega) (by omega),hkl]
  rw[Int.toNat_natCast]
  congr 1
  exact kfv (by omega) (by omega) i0 (by omega)
 generalize jt0 s.1 (sc s.1.length by_).toNat=A at lo1 go1 ⊢
 generalize (jt0 s.2 (sc s.1.length by_).toNat).take (s.1.length-1)=B at lo2 go2 ⊢
 have lov:(ji1 s).2.length=s.1.length:=by simp only[ji1,List.length_map];exact hkl
 have gov:∀i:Int,0≤i→i<s.1.length→(ji1 s).2.getD i.toNat 0=ovK (s.2.getD i.toNat 0):=fun i i0 i1=>j7l (by omega)
 simp only
 refine jab (fun g=>absurd rfl g) fun _=>?_
 refine jab (fun g=>absurd (by omega) g) fun _=>?_
 refine jaa (jah (by omega) (by omega)) (jab (fun g=>absurd (by omega) g) fun _=>?_)
 refine jab (fun g=>absurd (by omega) g) fun _=>?_
 refine jaa (jah (by omega) (by omega)) (jab (fun g=>absurd (by omega) g) fun _=>?_)
 refine jab (fun g=>absurd (by omega) g) fun _=>?_
 rw[show jfn fuel ((ji1 s).1,(ji1 s).2)=some (ji1 (ji1 s)) from jrb h.over,Option.bind_some,jyn h]
 refine jab (fun g=>absurd rfl g) fun _=>?_
 refine jab (fun g=>absurd rfl g) fun _=>?_
 refine jr7 rfl (by omega) (fun g=>absurd rfl g) fun _=>?_
 refine jab (fun g=>absurd rfl g) fun _=>?_
 refine jab (fun g=>absurd rfl g) fun _=>?_
 refine jr7 rfl (by omega) (fun g=>absurd rfl g) fun _=>?_
 refine jan (Inv:=fun i:Int=>0≤i∧i≤s.1.length) (m:=fun i=>((s.1.length:Int)-i).toNat) ?_ _ _ ⟨by simp,by simp⟩ (by simp only[fuel];omega)
 rintro i rec ⟨i1,i2⟩ ih
 refine jab (fun hlt=>?_) fun hge=>?_
 ·have hk:=h.kinds _ (jau (L:=s.2) (i:=i.toNat) (by omega))
  have hm0:=Int.emod_nonneg (by_+1+i) (show((s.1.length:Nat):Int)≠0 by omega)
  have hm1:=Int.emod_lt_of_pos (by_+1+i) (show(0:Int)< ((s.1.length:Nat):Int) by omega)
  have c1:=jap (i:=i) (n:=s.2.length) (by omega) (by omega)
  have c2:=jap (i:=i) (n:=A.length) (by omega) (by omega)
  have c3:=jah (n:=by_+1) (by omega) (by omega)
  have c4:=jah (n:=by_+1+i) (by omega) (by omega)
  have c5:(decide (0≤by_+1+i)&&decide ((0:Int)< ((s.1.length:Nat):Int)))=true:=by simp;omega
  have c6:=jap (i:=(by_+1+i)% ((s.1.length:Nat):Int)) (n:=s.1.length) hm0 hm1
  have c7:=jah (n:=((s.1.length:Nat):Int)-1) (by omega) (by omega)
  have c9:=jap (i:=(by_+1+i)% ((s.1.length:Nat):Int)) (n:=s.2.length) hm0 (by omega)
  have c10:=jap (i:=i) (n:=(ji1 s).2.length) (by omega) (by omega)
  have c11:=jap (i:=i) (n:=(ji1 s).1.length) (by omega) hlt
  have c12:=jap (i:=i) (n:=s.1.length) (by omega) (by omega)
  have nxt:Ret (chk (jak (i+1)) (rec (i+1))) (fun x=>x=true):=jaa (jah (by omega) (by omega)) (ih _ ⟨by omega,by omega⟩ (by omega))
  refine jaa c1 (jy7 (fun x:Int=>x=ovK (s.2.getD i.toNat 0)) (fun x hx=>?_) fun j hj=>?_)
  ·subst hx
   refine jaa c2 (jaa c3 (jaa c4 (jaa c5 (jaa c6 (jab (fun g=>absurd (go1 i i1 hlt) g) fun _=>jaa c7 (jab (fun g3=>?_) fun g3=>?_))))))
   ·refine jaa (jap (by omega) (by omega)) (jaa c3 (jaa c4 (jaa c5 (jaa c9 (jab (fun g=>absurd (go2 i i1 g3) g) fun _=>?_)))))
    refine jaa c10 (jab (fun g=>absurd (gov i i1 hlt) g) fun _=>?_)
    exact jaa c11 (jaa c12 (jab (fun g=>absurd rfl g) fun _=>nxt))
   ·refine jaa c10 (jab (fun g=>absurd (gov i i1 hlt) g) fun _=>?_)
    exact jaa c11 (jaa c12 (jab (fun g=>absurd rfl g) fun _=>nxt))
  ·refine jab (fun g=>hj _ ?_) fun g=>hj _ ?_
   ·rw[ju9 (by omega) (by omega),ovK,if_neg g]
   ·rw[ovK,if_pos (Classical.not_not.1 g)];exact Classical.not_not.1 g
 ·refine jaa (by simp;omega) (jab (fun g3=>?_) fun g3=>?_)
  ·rw[if_neg (by omega)]
   exact jab (fun _=>fin) fun g=>absurd rfl g
  ·rw[if_pos (by omega)]
   have lt1:(jhf s by_.toNat).1.length=s.1.length:=jf0 (by omega)
   have lt2:(jhf s by_.toNat).2.length=s.1.length:=by rw[←hkl];exact jf0 (by omega)
   simp only
   refine jab (fun g=>absurd rfl g) fun _=>?_
   refine jab (fun g=>absurd (by omega) g) fun _=>?_
   refine jab (fun g=>absurd (by omega) g) fun _=>?_
   refine jan (Inv:=fun i:Int=>0≤i∧i≤s.1.length) (m:=fun i=>((s.1.length:Int)-i).toNat) ?_ _ _ ⟨by simp,by simp⟩ (by simp only[fuel];omega)
   rintro i rec ⟨i1,i2⟩ ih
   refine jab (fun hlt=>?_) fun hge=>?_
   ·have hm0:=Int.emod_nonneg (by_+i) (show((s.1.length:Nat):Int)≠0 by omega)
    have hm1:=Int.emod_lt_of_pos (by_+i) (show(0:Int)< ((s.1.length:Nat):Int) by omega)
    have c4:=jah (n:=by_+i) (by omega) (by omega)
    have c5:(decide (0≤by_+i)&&decide ((0:Int)< ((s.1.length:Nat):Int)))=true:=by simp;omega
    have gt1:(jhf s by_.toNat).1.getD i.toNat 0=s.1.getD ((by_+i)% ((s.1.length:Nat):Int)).toNat 0:=by
     show(jt0 s.1 by_.toNat).getD i.toNat 0=_
     rw[jke (by omega) (by omega),jz5 (by omega) (by omega) i1 hlt (by omega),Int.toNat_natCast]
    have gt2:(jhf s by_.toNat).2.getD i.toNat 0=s.2.getD ((by_+i)% ((s.1.length:Nat):Int)).toNat 0:=by
     show(jt0 s.2 by_.toNat).getD i.toNat 0=_
     rw[jke (by omega) (by omega),jz5 (by omega) (by omega) i1 hlt (by omega),Int.toNat_natCast,hkl]
    refine jaa (jap (by omega) (by omega)) (jaa c4 (jaa c5 (jaa (jap hm0 hm1) (jab (fun g=>absurd gt1 g) fun _=>?_))))
    refine jaa (jap (by omega) (by omega)) (jaa c4 (jaa c5 (jaa (jap hm0 (by omega)) (jab (fun g=>absurd gt2 g) fun _=>?_))))
    exact jaa (jah (by omega) (by omega)) (ih _ ⟨by omega,by omega⟩ (by omega))
   ·refine jab (fun _=>fin) fun g6=>?_
    have ht:RValid (jhf s by_.toNat):=h.turn (by omega) (by omega)
    obtain⟨L,hL⟩:=jso h h8
    obtain⟨M,hM⟩:=jso ht (by omega)
    obtain⟨N,hN⟩:=jso h.over h8
    rw[show ja5 fuel (s.1,s.2)=_ from jez h h8 hL,Option.bind_some,show ja5 fuel ((jhf s by_.toNat).1,(jhf s by_.toNat).2)=_ from jez ht (by omega) hM,Option.bind_some,
     show ja5 fuel ((ji1 s).1,(ji1 s).2)=_ from jez h.over h8 hN,Option.bind_some]
    rw[←j8p h (by omega) (by omega) hL hM,←j84 h hL hN]
    refine jab (fun _=>?_) fun g=>absurd rfl g
    refine jab (fun _=>?_) fun g=>absurd rfl g
    refine jab (fun _=>?_) fun g=>absurd rfl g
    refine jab (fun _=>?_) fun g=>absurd rfl g
    exact jab (fun _=>fin) fun g=>absurd rfl g
end X
end Go.Vm
