/-
  A closed line that does not cross itself turns once around: its half turns to the one side and to the other differ by two.
  Rings: in a pile in which nothing crosses mountains and valleys differ by two.
  Rings: Turn, Open, Over; rings that are turned or turned over have as many ways.
  Rings: the law RingsTurn.
  Rings: the piles of strips.
  Rings: the law RingsDifference.
-/
import Derived.Test.YtofimkliemlojaaRC
import Derived.Test.YtofimkliemlojaaSt
import Derived.KernelRfl
set_option linter.unusedSimpArgs false
set_option linter.unusedVariables false
set_option linter.unusedSectionVars false
set_option linter.unnecessarySimpa false
namespace Go.Vm
namespace X
def sgR (r:Nat→Int) (a b:Nat):Int:=if r a<r b then 1 else -1
def dRi (P:Nat→Int) (i j:Nat):Int:=if P i<P j then 1 else 0
structure Curve (n:Nat) (P r:Nat→Int):Prop where
 two:2<n
 even:n%2=0
 close:P n=P 0
 ext:∀j,0<j→j<n→P 0<P j
 up:∀i,i<n→i%2=0→P i<P (i+1)
 down:∀i,i<n→i%2=1→P (i+1)<P i
 inj:∀i j,i<n→j<n→P i=P j→i=j
 rinj:∀i j,0<i→i≤n→0<j→j≤n→r i=r j→i=j
 nc:∀i j,i<n→0<j→j<n→j≠i→j≠i+1→(P i<P j∧P j<P (i+1)∨P (i+1)<P j∧P j<P i)→(r j<r (i+1)↔r (j+1)<r (i+1))
def hW (P r:Nat→Int) (i j:Nat):Int:=(dRi P i (j+1)-dRi P i j)*sgR r (i+1) (j+1)
def vW (P r:Nat→Int) (i j:Nat):Int:=(dRi P (i+1) j-dRi P i j)*sgR r (i+1) j
def tW (r:Nat→Int) (k:Nat):Int:=if k%2=0 then sgR r k (k+1) else-sgR r k (k+1)
def sumW (f:Nat→Int) (a:Nat):Nat→Int
 | 0=>0
 | k+1=>sumW f a k+f (a+k)
theorem sumW_front (f:Nat→Int) (a:Nat):∀k,sumW f a (k+1)=f a+sumW f (a+1) k
 | 0=>by simp[sumW]
 | k+1=>by
   rw[sumW,sumW_front f a k,sumW,show a+ (k+1)=a+1+k by omega]
   omega
theorem sumW_zero (f:Nat→Int) (a:Nat):∀k,(∀j,j<k→f (a+j)=0)→sumW f a k=0
 | 0,_=>rfl
 | k+1,h=>by rw[sumW,sumW_zero f a k fun j hj=>h j (by omega),h k (by omega)];rfl
theorem sq_plain {d00 d01 d10 d11 s s1 s2:Int} (h1:d10≠d00→s1=s) (h2:d11≠d10→s2=s):(d01-d00)*s+ (d11-d01)*s=(d10-d00)*s1+ (d11-d10)*s2:=by
 have e1:(d10-d00)*s1=(d10-d00)*s:=by
  by_cases h:d10=d00
  ·rw[h,Int.sub_self,Int.zero_mul,Int.zero_mul]
  ·rw[h1 h]
 have e2:(d11-d10)*s2=(d11-d10)*s:=by
  by_cases h:d11=d10
  ·rw[h,Int.sub_self,Int.zero_mul,Int.zero_mul]
  ·rw[h2 h]
 rw[e1,e2,←Int.add_mul,←Int.add_mul]
 congr 1
 omega
section
variable {n:Nat} {P r:Nat→Int} (h:Curve n P r)
include h
omit h in
theorem apartC {i j k:Nat} (e:dRi P i k≠dRi P j k):P i<P k∧P k≤P j∨P j<P k∧P k≤P i:=by
 unfold dRi at e
 by_cases h1:P i<P k<;>by_cases h2:P j<P k<;>simp[h1,h2] at e<;>omega
theorem Curve.side {i k:Nat} (hi:i<n) (hk:0<k) (hkn:k<n) (h1:k≠i) (h2:k≠i+1) (e:P i<P k∧P k≤P (i+1)∨P (i+1)<P k∧P k≤P i∨P i≤P k∧P k<P (i+1)∨P (i+1)≤P k∧P k<P i):r k<r (i+1)↔r (k+1)<r (i+1):=by
 have n1:P k≠P i:=fun e=>h1 (h.inj _ _ hkn hi e)
 have n2:P k≠P (i+1):=fun e=>by
  by_cases he:i+1<n
  ·exact h2 (h.inj _ _ hkn he e)
  ·rw[show i+1=n by omega,h.close] at e
   have:=h.ext k hk hkn
   omega
 exact h.nc i k hi hk hkn h1 h2 (by omega)
theorem Curve.sq {i j:Nat} (hij:i+2≤j) (hj:j<n):hW P r i j+vW P r i (j+1)=vW P r i j+hW P r (i+1) j:=by
 unfold hW vW
 refine sq_plain (fun e=>?_) fun e=>?_
 ·have a:=apartC (P:=P) (i:=i) (j:=i+1) (k:=j) (fun c=>e c.symm)
  have b:=h.side (i:=i) (k:=j) (by omega) (by omega) hj (by omega) (by omega) (by omega)
  have r1:r j≠r (i+1):=fun c=>absurd (h.rinj _ _ (by omega) (by omega) (by omega) (by omega) c) (by omega)
  have r2:r (j+1)≠r (i+1):=fun c=>absurd (h.rinj _ _ (by omega) (by omega) (by omega) (by omega) c) (by omega)
  unfold sgR
  by_cases c:r (i+1)<r j
  ·rw[if_pos c,if_pos (by omega)]
  ·rw[if_neg c,if_neg (by omega)]
 ·have b:=h.side (i:=j) (k:=i+1) (by omega) (by omega) (by omega) (by omega) (by omega) (by
   unfold dRi at e
   by_cases h1:P (i+1)<P (j+1)<;>by_cases h2:P (i+1)<P j<;>simp[h1,h2] at e<;>omega)
  unfold sgR
  by_cases c:r (i+1)<r (j+1)
  ·rw[if_pos c,if_pos (by omega)]
  ·rw[if_neg c,if_neg (by omega)]
theorem Curve.tri {i:Nat} (hi:i+2≤n):hW P r i (i+1)+vW P r i (i+2)=tW r (i+1):=by
 unfold hW vW tW
 rw[←Int.add_mul]
 have d1:dRi P i (i+1)=if i%2=0 then 1 else 0:=by
  unfold dRi
  by_cases e:i%2=0
  ·rw[if_pos e,if_pos (h.up i (by omega) e)]
  ·rw[if_neg e,if_neg (by have:=h.down i (by omega) (by omega);omega)]
 have d2:dRi P (i+1) (i+2)=if i%2=0 then 0 else 1:=by
  unfold dRi
  by_cases e:i%2=0
  ·rw[if_pos e,if_neg (by have:P (i+2)<P (i+1):=h.down (i+1) (by omega) (by omega);omega)]
  ·rw[if_neg e,if_pos (show P (i+1)<P (i+2) from h.up (i+1) (by omega) (by omega))]
 rw[show i+1+1=i+2 from rfl,show dRi P i (i+2)-dRi P i (i+1)+ (dRi P (i+1) (i+2)-dRi P i (i+2))=dRi P (i+1) (i+2)-dRi P i (i+1) by omega,d1,d2]
 by_cases e:i%2=0
 ·rw[if_pos e,if_pos e,if_neg (by omega)];omega
 ·rw[if_neg e,if_neg e,if_pos (by omega)];omega
theorem Curve.row {i:Nat}:∀k,i+2+k≤n→(i≠0∨i+2+k<n)→sumW (hW P r i) (i+1) (k+1)+vW P r i (i+2+k)=tW r (i+1)+sumW (hW P r (i+1)) (i+2) k
 | 0,h1,_=>by
   rw[←h.tri (by omega)]
   simp[sumW]
 | k+1,h1,h2=>by
   have ih:=Curve.row (i:=i) k (by omega) (by omega)
   have:=h.sq (i:=i) (j:=i+2+k) (by omega) (by omega)
   have e1:sumW (hW P r i) (i+1) (k+1+1)=sumW (hW P r i) (i+1) (k+1)+hW P r i (i+1+ (k+1)):=rfl
   have e2:sumW (hW P r (i+1)) (i+2) (k+1)=sumW (hW P r (i+1)) (i+2) k+hW P r (i+1) (i+2+k):=rfl
   rw[show i+1+ (k+1)=i+2+k by omega] at e1
   rw[show i+2+ (k+1)=i+2+k+1 by omega]
   omega
theorem Curve.last {i:Nat} (h0:0<i):∀m,i+1+m=n→sumW (hW P r i) (i+1) m=sumW (tW r) (i+1) m
 | 0,_=>rfl
 | m+1,e=>by
   have ih:=Curve.last (i:=i+1) (by omega) m (by omega)
   have:=h.row (i:=i) m (by omega) (by omega)
   have v0:vW P r i (i+2+m)=0:=by
    unfold vW dRi
    rw[show i+2+m=n by omega,h.close,if_neg (by have:=h.ext (i+1) (by omega) (by omega);omega),if_neg (by have:=h.ext i h0 (by omega);omega)]
    simp
   rw[sumW_front (tW r)]
   rw[show i+1+1=i+2 from rfl] at ih ⊢
   omega
theorem Curve.turns:sumW (tW r) 1 (n-1)= - sgR r 1 n:=by
 have h2:=h.two
 have he:=h.even
 obtain⟨m,rfl⟩:∃m,n=m+3:=⟨n-3,by omega⟩
 have z:sumW (hW P r 0) 1 (m+1)=0:=sumW_zero _ _ _ fun j hj=>by
  unfold hW dRi
  rw[if_pos (h.ext _ (by omega) (by omega)),if_pos (h.ext _ (by omega) (by omega))]
  simp
 have r0:=h.row (i:=0) m (by omega) (by omega)
 have l1:=h.last (i:=1) (by omega) (m+1) (by omega)
 have s1:sumW (hW P r 1) 2 (m+1)=sumW (hW P r 1) 2 m+hW P r 1 (2+m):=rfl
 rw[show m+3-1=(m+1)+1 from rfl,sumW_front,show 1+1=2 from rfl]
 rw[show 0+1=1 from rfl,show 0+2=2 from rfl] at r0
 rw[show 1+1=2 from rfl] at l1
 have key:vW P r 0 (2+m)+hW P r 1 (2+m)= - sgR r 1 (m+3):=by
  unfold vW hW
  have e0:dRi P 0 (2+m)=1:=if_pos (h.ext _ (by omega) (by omega))
  have e1:dRi P (1+0) (2+m+1)=0:=by
   unfold dRi
   rw[show 2+m+1=m+3 by omega,h.close,if_neg (by have:=h.ext (1+0) (by omega) (by omega);omega)]
  have P1:=h.ext 1 (by omega) (by omega)
  have P2:=h.ext (2+m) (by omega) (by omega)
  have Pc:=h.close
  rw[show 0+1=1 from rfl,e0,show dRi P 1 (2+m+1)=0 from e1,show 2+m+1=m+3 by omega]
  have d:dRi P 1 (2+m)=if P 1<P (2+m) then 1 else 0:=rfl
  by_cases c:P 1<P (2+m)
  ·rw[d,if_pos c]
   have b:=h.side (i:=2+m) (k:=1) (by omega) (by omega) (by omega) (by omega) (by omega) (by rw[show 2+m+1=m+3 by omega];omega)
   rw[show 2+m+1=m+3 by omega,show 1+1=2 from rfl] at b
   have:sgR r (1+1) (m+3)=sgR r 1 (m+3):=by
    unfold sgR
    rw[show 1+1=2 from rfl]
    by_cases c:r 1<r (m+3)
    ·rw[if_pos c,if_pos (by omega)]
    ·rw[if_neg c,if_neg (by omega)]
   rw[this]
   omega
  ·rw[d,if_neg c]
   have n1:P 1≠P (2+m):=fun e=>absurd (h.inj _ _ (by omega) (by omega) e) (by omega)
   have b:=h.side (i:=0) (k:=2+m) (by omega) (by omega) (by omega) (by omega) (by omega) (by rw[show 0+1=1 from rfl];omega)
   rw[show 2+m+1=m+3 by omega,show 0+1=1 from rfl] at b
   have r1:r (2+m)≠r 1:=fun c=>absurd (h.rinj _ _ (by omega) (by omega) (by omega) (by omega) c) (by omega)
   have r2:r (m+3)≠r 1:=fun c=>absurd (h.rinj _ _ (by omega) (by omega) (by omega) (by omega) c) (by omega)
   have:sgR r 1 (2+m)=sgR r 1 (m+3):=by
    unfold sgR
    by_cases c:r 1<r (2+m)
    ·rw[if_pos c,if_pos (by omega)]
    ·rw[if_neg c,if_neg (by omega)]
   rw[this]
   omega
 omega
end
end X
end Go.Vm
namespace Go.Vm
namespace X
open W
theorem sumW_add (f:Nat→Int) (a k:Nat):∀m,sumW f a (k+m)=sumW f a k+sumW f (a+k) m
 | 0=>by simp[sumW]
 | m+1=>by rw[show k+ (m+1)=(k+m)+1 by omega,sumW,sumW_add f a k m,sumW,show a+ (k+m)=a+k+m by omega];omega
theorem sumW_congr {f g:Nat→Int} {a b:Nat}:∀k,(∀j,j<k→f (a+j)=g (b+j))→sumW f a k=sumW g b k
 | 0,_=>rfl
 | k+1,h=>by rw[sumW,sumW,sumW_congr k fun j hj=>h j (by omega),h k (by omega)]
def rot (n e k:Nat):Nat:=if e+k<n then e+k else e+k-n
theorem rot_lt {n e k:Nat} (he:e<n) (hk:k≤n):rot n e k<n:=by unfold rot;split<;>omega
theorem rot_sum (f:Nat→Int) {n e:Nat} (he:e<n):sumW f 0 n=sumW (fun k=>f (rot n e k)) 0 n:=by
 obtain⟨m,rfl⟩:∃m,n=e+m:=⟨n-e,by omega⟩
 rw[sumW_add f 0 e m]
 conv=>rhs;rw[show e+m=m+e by omega]
 rw[sumW_add _ 0 m e,sumW_congr (f:=fun k=>f (rot (m+e) e k)) (g:=f) (a:=0) (b:=0+e) m fun j hj=>?_,sumW_congr (f:=fun k=>f (rot (m+e) e k)) (g:=f) (a:=0+m) (b:=0) e fun j hj=>?_]
 ·omega
 ·show f (rot (m+e) e (0+m+j))=_
  unfold rot
  rw[if_neg (by omega)]
  congr 1;omega
 ·show f (rot (m+e) e (0+j))=_
  unfold rot
  rw[if_pos (by omega)]
  congr 1;omega
theorem least_ex (P:Nat→Int):∀n,0<n→∃e,e<n∧∀j,j<n→P e≤P j
 | 0,h=>absurd h (by omega)
 | 1,_=>⟨0,by omega,fun j hj=>by rw[show j=0 by omega];exact Int.le_refl _⟩
 | n+2,_=>by
   obtain⟨e,h1,h2⟩:=least_ex P (n+1) (by omega)
   by_cases h:P e≤P (n+1)
   ·refine⟨e,by omega,fun j hj=>?_⟩
    by_cases hj':j<n+1
    ·exact h2 j hj'
    ·rw[show j=n+1 by omega];exact h
   ·refine⟨n+1,by omega,fun j hj=>?_⟩
    by_cases hj':j<n+1
    ·have:=h2 j hj';omega
    ·rw[show j=n+1 by omega];exact Int.le_refl _
theorem pos_plain {x y K u v:Int} (hu:0≤u) (hu':u<K) (hv:0≤v) (hv':v<K):x*K+u<y*K+v↔x<y∨(x=y∧u<v):=by
 rcases Int.lt_trichotomy x y with h | h | h
 ·have:(x+1)*K≤y*K:=Int.mul_le_mul_of_nonneg_right (by omega) (by omega)
  rw[Int.add_mul,Int.one_mul] at this
  omega
 ·subst h;omega
 ·have:(y+1)*K≤x*K:=Int.mul_le_mul_of_nonneg_right (by omega) (by omega)
  rw[Int.add_mul,Int.one_mul] at this
  omega
def nx (n i:Nat):Nat:=if i+1<n then i+1 else 0
theorem sc_nx {n i:Nat}:sc n (i:Int)=(nx n i:Nat):=by
 unfold sc nx
 by_cases h:i+1<n
 ·rw[if_pos (by omega),if_pos h];omega
 ·rw[if_neg (by omega),if_neg h];rfl
def offR (n:Nat) (f:Int→Int) (i:Nat):Int:=if i%2=1 then 2*n+min (f i) (f (nx n i:Nat)) else n-1-min (f i) (f (nx n i:Nat))
def posR (E:List Int) (n:Nat) (f:Int→Int) (i:Nat):Int:=E.getD (i+1) 0* (4*n)+offR n f i
structure RkF (n:Nat) (f:Int→Int):Prop where
 lo:∀x:Nat,x<n→0≤f x
 hi:∀x:Nat,x<n→f x<n
 inj:∀x y:Nat,x<n→y<n→f x=f y→x=y
section
variable {E:List Int} {n:Nat} {f:Int→Int} (h:REnds E n) (hf:RkF n f)
include h hf
theorem nx_lt {i:Nat} (hi:i<n):nx n i<n∧nx n i≠i∧(nx n i)%2≠i%2:=by
 have:=h.two;have:=h.even
 unfold nx;split<;>omega
theorem offR_bd {i:Nat} (hi:i<n):0≤offR n f i∧offR n f i<4*n:=by
 have a:=hf.lo _ hi;have b:=hf.hi _ hi
 have a':=hf.lo _ (nx_lt h hf hi).1;have b':=hf.hi _ (nx_lt h hf hi).1
 unfold offR
 split<;>omega
theorem posR_lt {i j:Nat} (hi:i<n) (hj:j<n):posR E n f i<posR E n f j↔E.getD (i+1) 0<E.getD (j+1) 0∨(E.getD (i+1) 0=E.getD (j+1) 0∧offR n f i<offR n f j):=by
 have a:=offR_bd h hf hi;have b:=offR_bd h hf hj
 exact pos_plain a.1 a.2 b.1 b.2
theorem posR_inj {i j:Nat} (hi:i<n) (hj:j<n) (e:posR E n f i=posR E n f j):i=j:=by
 have l1:=posR_lt h hf hi hj
 have l2:=posR_lt h hf hj hi
 have e1:offR n f i=offR n f j:=by omega
 have a:=nx_lt h hf hi;have b:=nx_lt h hf hj
 have v1:=hf.lo _ hi;have v2:=hf.hi _ hi;have v3:=hf.lo _ hj;have v4:=hf.hi _ hj
 have v5:=hf.lo _ a.1;have v6:=hf.hi _ a.1;have v7:=hf.lo _ b.1;have v8:=hf.hi _ b.1
 have q:i%2=j%2∧min (f i) (f (nx n i:Nat))=min (f j) (f (nx n j:Nat)):=by
  unfold offR at e1
  by_cases c1:i%2=1<;>by_cases c2:j%2=1<;>simp only[c1,c2,if_true,if_false] at e1<;>omega
 have i1:=hf.inj i j hi hj
 have i2:=hf.inj i (nx n j) hi b.1
 have i3:=hf.inj (nx n i) j a.1 hj
 have i4:=hf.inj (nx n i) (nx n j) a.1 b.1
 have i5:nx n i=nx n j→i=j:=by
  unfold nx
  split<;>split<;>omega
 omega
theorem at_nx {i:Nat} (hi:i<n):E.getD (nx n i) 0=E.getD (i+1) 0:=by
 unfold nx
 split
 ·rfl
 ·rw[show i+1=n by omega,h.closed]
theorem rot_nx {e k:Nat} (he:e<n) (hk:k<n):rot n e (k+1)=nx n (rot n e k):=by
 have:=h.two
 unfold rot nx
 by_cases c:e+k<n
 ·rw[if_pos c]
  by_cases c2:e+k+1<n
  ·rw[if_pos (by omega),if_pos c2];omega
  ·rw[if_neg (by omega),if_neg c2];omega
 ·rw[if_neg c,if_neg (by omega),if_pos (by omega)];omega
theorem rot_par {e k:Nat} (he:e<n) (ho:e%2=1) (hk:k≤n):(k%2=0↔(rot n e k)%2=1):=by
 have:=h.even
 unfold rot;split<;>omega
theorem step_up {i:Nat} (hi:i<n) (ho:i%2=1):E.getD (i+1) 0<E.getD (nx n i+1) 0:=by
 have a:=nx_lt h hf hi
 have:=h.up _ a.1 (by omega)
 rw[at_nx h hf hi] at this
 exact this
theorem step_down {i:Nat} (hi:i<n) (ho:i%2=0):E.getD (nx n i+1) 0<E.getD (i+1) 0:=by
 have a:=nx_lt h hf hi
 have:=h.down _ a.1 (by omega)
 rw[at_nx h hf hi] at this
 exact this
theorem side_nx (hc:¬CrossR E n f) {c j:Nat} (hi:c<n) (hj:j<n) (h1:j≠c) (h2:j≠nx n c)
  (hb:posR E n f c<posR E n f j∧posR E n f j<posR E n f (nx n c)∨posR E n f (nx n c)<posR E n f j∧posR E n f j<posR E n f c):f (j:Nat)<f (nx n c:Nat)↔f (nx n j:Nat)<f (nx n c:Nat):=by
 have a:=nx_lt h hf hi;have b:=nx_lt h hf hj
 have a2:=nx_lt h hf a.1
 have n1:f (j:Nat)≠f (nx n c:Nat):=fun e=>h2 (hf.inj _ _ hj a.1 e)
 have n2:f (nx n j:Nat)≠f (nx n c:Nat):=fun e=>by
  have:=hf.inj _ _ b.1 a.1 e
  refine h1 ?_
  revert this
  unfold nx
  split<;>split<;>omega
 have key:¬BetR n f j (nx n c:Nat):=fun hbt=>by
  have hbt':=hbt
  rw[BetR,sc_nx] at hbt
  rw[posR_lt h hf hi hj,posR_lt h hf hj a.1,posR_lt h hf a.1 hj,posR_lt h hf hj hi] at hb
  have nocross:¬(frm E (nx n c)<E.getD (j+1) 0∧E.getD (j+1) 0<too E (nx n c)):=fun hh=>hc ⟨j,by omega,by omega,.inl ⟨(nx n c:Nat),by omega,by omega,by simpa using hh.1,by simpa using hh.2,hbt'⟩⟩
  have besd:∀k:Nat,k<n→k≠j→E.getD (k+1) 0=E.getD (j+1) 0→k%2=j%2→(BetR n f j k↔BetR n f j (sc n k)):=fun k hk hkj hk1 hk2=>by
   refine Classical.byContradiction fun hh=>hc ⟨j,by omega,by omega,.inr ⟨k,by omega,by omega,by omega,by simpa using hk1,?_,hh⟩⟩
   have u1:=h.up _ hk;have u2:=h.down _ hk;have u3:=h.up _ hj;have u4:=h.down _ hj
   simp only[Int.toNat_natCast]
   omega
  have at1:=at_nx h hf hi
  rw[frm,too,at1] at nocross
  by_cases co:c%2=1
  ·have st:=step_up h hf hi co
   rcases Int.lt_trichotomy (E.getD (j+1) 0) (E.getD (c+1) 0) with g | g | g
   ·omega
   ·
    have oo:offR n f c<offR n f j:=by omega
    have bd1:=offR_bd h hf hi
    by_cases jo:j%2=1
    ·have bc:=besd c hi (fun e=>h1 e.symm) g.symm (by omega)
     rw[sc_nx] at bc
     have hb1:=bc.2 hbt'
     rw[BetR,sc_nx] at hb1
     unfold offR at oo
     rw[if_pos co,if_pos jo] at oo
     omega
    ·unfold offR at oo
     rw[if_pos co,if_neg jo] at oo
     have v1:=hf.lo _ hi;have v5:=hf.lo _ a.1;have v3:=hf.lo _ hj;have v7:=hf.lo _ b.1
     have w3:=hf.hi _ hj;have w7:=hf.hi _ b.1
     omega
   ·rcases Int.lt_trichotomy (E.getD (j+1) 0) (E.getD (nx n c+1) 0) with g2 | g2 | g2
    ·omega
    ·have oo:offR n f j<offR n f (nx n c):=by omega
     by_cases jo:j%2=1
     ·unfold offR at oo
      rw[if_pos jo,if_neg (by omega)] at oo
      have v1:=hf.lo _ a.1;have v5:=hf.lo _ a2.1;have v3:=hf.lo _ hj;have v7:=hf.lo _ b.1
      have w3:=hf.hi _ hj;have w7:=hf.hi _ b.1;have w5:=hf.hi _ a2.1;have w1:=hf.hi _ a.1
      omega
     ·have bc:=besd (nx n c) a.1 (fun e=>h2 e.symm) g2.symm (by omega)
      rw[sc_nx] at bc
      have hb1:=bc.1 hbt'
      rw[BetR,sc_nx] at hb1
      unfold offR at oo
      rw[if_neg jo,if_neg (by omega)] at oo
      omega
    ·omega
  ·have st:=step_down h hf hi (by omega)
   rcases Int.lt_trichotomy (E.getD (j+1) 0) (E.getD (c+1) 0) with g | g | g
   ·rcases Int.lt_trichotomy (E.getD (j+1) 0) (E.getD (nx n c+1) 0) with g2 | g2 | g2
    ·omega
    ·have oo:offR n f (nx n c)<offR n f j:=by omega
     by_cases jo:j%2=1
     ·have bc:=besd (nx n c) a.1 (fun e=>h2 e.symm) g2.symm (by omega)
      rw[sc_nx] at bc
      have hb1:=bc.1 hbt'
      rw[BetR,sc_nx] at hb1
      unfold offR at oo
      rw[if_pos (by omega),if_pos jo] at oo
      omega
     ·unfold offR at oo
      rw[if_pos (by omega),if_neg jo] at oo
      have v1:=hf.lo _ a.1;have v5:=hf.lo _ a2.1;have v3:=hf.lo _ hj;have v7:=hf.lo _ b.1
      have w3:=hf.hi _ hj;have w7:=hf.hi _ b.1;have w5:=hf.hi _ a2.1;have w1:=hf.hi _ a.1
      omega
    ·omega
   ·have oo:offR n f j<offR n f c:=by omega
    by_cases jo:j%2=1
    ·unfold offR at oo
     rw[if_pos jo,if_neg co] at oo
     have v1:=hf.lo _ hi;have v5:=hf.lo _ a.1;have v3:=hf.lo _ hj;have v7:=hf.lo _ b.1
     have w3:=hf.hi _ hj;have w7:=hf.hi _ b.1;have w1:=hf.hi _ hi;have w5:=hf.hi _ a.1
     omega
    ·have bc:=besd c hi (fun e=>h1 e.symm) g.symm (by omega)
     rw[sc_nx] at bc
     have hb1:=bc.2 hbt'
     rw[BetR,sc_nx] at hb1
     unfold offR at oo
     rw[if_neg jo,if_neg co] at oo
     omega
   ·omega
 rw[BetR,sc_nx] at key
 omega
def valR (n:Nat) (f:Int→Int) (i:Nat):Int:=3-2*kindR n f i
omit h in
theorem valR_eq {i:Nat} (hi:i<n) (hn:nx n i<n) (hne:nx n i≠i):valR n f i=if i%2=1 then(if f i<f (nx n i:Nat) then 1 else -1) else -(if f i<f (nx n i:Nat) then 1 else -1):=by
 unfold valR kindR
 rw[sc_nx]
 have:f i≠f (nx n i:Nat):=fun e=>hne (hf.inj _ _ hi hn e).symm
 by_cases c:i%2=1
 ·rw[if_neg (by omega),if_pos c]
  by_cases c2:f i<f (nx n i:Nat)
  ·rw[if_neg (by omega),if_pos c2];rfl
  ·rw[if_pos (by omega),if_neg c2];rfl
 ·rw[if_pos (by omega),if_neg c]
  by_cases c2:f i<f (nx n i:Nat)
  ·rw[if_pos c2,if_pos c2];rfl
  ·rw[if_neg c2,if_neg c2];rfl
theorem ring_turns (hc:¬CrossR E n f):sumW (valR n f) 0 n=2∨sumW (valR n f) 0 n= -2:=by
 have h2:=h.two
 have hev:=h.even
 by_cases n2:n=2
 ·subst n2
  have a:=nx_lt h hf (i:=0) (by omega);have b:=nx_lt h hf (i:=1) (by omega)
  show 0+valR 2 f 0+valR 2 f 1=2∨0+valR 2 f 0+valR 2 f 1= -2
  rw[valR_eq hf (by omega) a.1 a.2.1,valR_eq hf (by omega) b.1 b.2.1]
  rw[show nx 2 0=1 from rfl,show nx 2 1=0 from rfl]
  have:f (0:Nat)≠f (1:Nat):=fun e=>absurd (hf.inj 0 1 (by omega) (by omega) e) (by omega)
  rw[if_neg (show ¬0%2=1 by omega),if_pos (show 1%2=1 from rfl)]
  by_cases c:f (0:Nat)<f (1:Nat)
  ·rw[if_pos c,if_neg (by omega)];right;rfl
  ·rw[if_neg c,if_pos (by omega)];left;rfl
 obtain⟨e,he,hl⟩:=least_ex (posR E n f) n (by omega)
 have eo:e%2=1:=by
  apply Classical.byContradiction
  intro hh
  have b:=nx_lt h hf he
  have st:=step_down h hf he (by omega)
  have:=hl _ b.1
  have:=posR_lt h hf b.1 he
  omega
 have rl:∀k,k≤n→rot n e k<n:=fun k hk=>rot_lt he hk
 have r0:rot n e 0=e:=by unfold rot;rw[if_pos (by omega)];omega
 have rn:rot n e n=e:=by unfold rot;rw[if_neg (by omega)];omega
 have ri:∀i j,i<n→j<n→rot n e i=rot n e j→i=j:=fun i j hi hj=>by unfold rot;split<;>split<;>omega
 have cv:Curve n (fun k=>posR E n f (rot n e k)) (fun k=>f (rot n e k:Nat)):=
  { two:=by omega
    even:=hev
    close:=by simp only[rn,r0]
    ext:=fun j h0 hj=>by
     simp only[r0]
     have:=hl _ (rl j (by omega))
     rcases Int.lt_or_le (posR E n f e) (posR E n f (rot n e j)) with g | g
     ·exact g
     ·have:=posR_inj h hf he (rl j (by omega)) (by omega)
      rw[←r0] at this
      have:=ri 0 j (by omega) hj (by rw[r0] at this ⊢;exact this)
      omega
    up:=fun i hi hp=>by
     rw[rot_nx h hf he hi,posR_lt h hf (rl i (by omega)) (nx_lt h hf (rl i (by omega))).1]
     exact .inl (step_up h hf (rl i (by omega)) ((rot_par h hf he eo (by omega)).1 hp))
    down:=fun i hi hp=>by
     rw[rot_nx h hf he hi,posR_lt h hf (nx_lt h hf (rl i (by omega))).1 (rl i (by omega))]
     have:=(rot_par h hf he eo (k:=i) (by omega))
     exact .inl (step_down h hf (rl i (by omega)) (by omega))
    inj:=fun i j hi hj ee=>ri i j hi hj (posR_inj h hf (rl i (by omega)) (rl j (by omega)) ee)
    rinj:=fun i j h0 hi h0' hj ee=>by
     have:=hf.inj _ _ (rl i hi) (rl j hj) ee
     revert this
     unfold rot;split<;>split<;>omega
    nc:=fun i j hi h0 hj h1 h2' hb=>by
     have e1:=rot_nx h hf he hi
     have e2:=rot_nx h hf he hj
     rw[e1] at hb ⊢
     rw[e2]
     refine side_nx h hf hc (rl i (by omega)) (rl j (by omega)) (fun e'=>h1 (ri _ _ hj hi e')) (fun e'=>?_) hb
     rw[←e1] at e'
     revert e'
     unfold rot;split<;>split<;>omega }
 have tn:=cv.turns
 rw[rot_sum (valR n f) he]
 obtain⟨m,hm⟩:∃m,n=m+1:=⟨n-1,by omega⟩
 have sp:sumW (fun k=>valR n f (rot n e k)) 0 n=valR n f (rot n e 0)+sumW (fun k=>valR n f (rot n e k)) 1 (n-1):=by
  rw[hm,sumW_front];rfl
 have cg:sumW (fun k=>valR n f (rot n e k)) 1 (n-1)=sumW (tW fun k=>f (rot n e k:Nat)) 1 (n-1):=sumW_congr _ fun j hj=>by
  have b:=nx_lt h hf (rl (1+j) (by omega))
  rw[valR_eq hf (rl _ (by omega)) b.1 b.2.1,←rot_nx h hf he (by omega)]
  have pr:=rot_par h hf he eo (k:=1+j) (by omega)
  unfold tW sgR
  by_cases c:(1+j)%2=0
  ·rw[if_pos (pr.1 c),if_pos c]
  ·rw[if_neg (by omega),if_neg c]
 rw[sp,cg,tn,r0]
 have b:=nx_lt h hf he
 rw[valR_eq hf he b.1 b.2.1,if_pos eo]
 unfold sgR
 have e1:rot n e 1=nx n e:=by
  have:=rot_nx h hf he (k:=0) (by omega)
  rw[r0] at this
  exact this
 simp only[e1,rn]
 have:f e≠f (nx n e:Nat):=fun ee=>b.2.1 (hf.inj _ _ he b.1 ee).symm
 by_cases c:f e<f (nx n e:Nat)
 ·rw[if_pos c,if_neg (by omega)];left;rfl
 ·rw[if_neg c,if_pos (by omega)];right;rfl
end
end X
end Go.Vm
namespace Go.Vm
namespace X
open W Go.Proofs.St
theorem slices_Concat_int_ok {A B:List Int} (hA:A.length≤1000) (hB:B.length≤1000):slices_Concat_int fuel [A,B]=some (A++B):=by
 apply Ret.eq
 unfold slices_Concat_int
 have l2:(([A,B]:List (List Int)).length:Int)=2:=rfl
 refine Ret_loop (Inv:=fun x:Int×Int=>0≤x.2∧x.2≤2∧x.1=if x.2=0 then(0:Int) else if x.2=1 then(A.length:Int) else A.length+B.length) (m:=fun x=>(2-x.2).toNat) ?_ _ _ ⟨by simp,by simp,by simp⟩ (by simp only[fuel];omega)
 rintro ⟨z,i⟩ rec ⟨i1,i2,i3⟩ ih
 simp only at i1 i2 i3 ⊢
 refine Ret_dec (fun hlt=>?_) fun hge=>?_
 ·rcases(by omega:i=0∨i=1) with rfl | rfl
  ·rw[if_pos rfl] at i3
   refine Ret_chk (inb_t (by omega) (by omega)) ?_
   show Ret (chk (i64b (z+ ((A.length:Nat):Int))) _) _
   refine Ret_chk (i64b_t (by omega) (by omega)) (Ret_dec (fun g=>?_) fun g=>Ret_chk (by rfl) (ih _ ⟨by simp,by simp,?_⟩ (by simp)))
   ·change z+ ((A.length:Nat):Int)<0 at g
    omega
   ·show z+ ((A.length:Nat):Int)=if(1:Int)=0 then 0 else if(1:Int)=1 then(A.length:Int) else _
    rw[if_neg (by omega),if_pos rfl];omega
  ·rw[if_neg (by omega),if_pos rfl] at i3
   refine Ret_chk (inb_t (by omega) (by omega)) ?_
   show Ret (chk (i64b (z+ ((B.length:Nat):Int))) _) _
   refine Ret_chk (i64b_t (by omega) (by omega)) (Ret_dec (fun g=>?_) fun g=>Ret_chk (by rfl) (ih _ ⟨by simp,by simp,?_⟩ (by simp)))
   ·change z+ ((B.length:Nat):Int)<0 at g
    omega
   ·show z+ ((B.length:Nat):Int)=if(2:Int)=0 then 0 else if(2:Int)=1 then(A.length:Int) else _
    rw[if_neg (by omega),if_neg (by omega)];omega
 ·rw[show i=2 by omega,if_neg (by omega),if_neg (by omega)] at i3
  unfold slices_Grow_int
  rw[inb_t (by simp only;omega) (by simp only;omega),cond_true,Option.bind_some]
  refine Ret_loop (Inv:=fun x:List Int×Int=>0≤x.2∧x.2≤2∧x.1=if x.2=0 then [] else if x.2=1 then A else A++B) (m:=fun x=>(2-x.2).toNat) ?_ _ _ ⟨by simp,by simp,by simp⟩ (by simp only[fuel];omega)
  rintro ⟨L,k⟩ rec2 ⟨j1,j2,j3⟩ ih2
  simp only at j1 j2 j3 ⊢
  refine Ret_dec (fun hlt2=>?_) fun hge2=>Ret_some (by rw[j3,if_neg (by omega),if_neg (by omega)])
  rcases(by omega:k=0∨k=1) with rfl | rfl
  ·rw[if_pos rfl] at j3
   subst j3
   refine Ret_chk (inb_t (by omega) (by omega)) ?_
   show Ret (chk (lenOk (([]:List Int).length+A.length)) (chk _ (rec2 ([]++A,_)))) _
   exact Ret_chk (lenOk_t (by simp;omega)) (Ret_chk (by rfl) (ih2 _ ⟨by simp,by simp,by simp⟩ (by simp)))
  ·rw[if_neg (by omega),if_pos rfl] at j3
   subst j3
   refine Ret_chk (inb_t (by omega) (by omega)) ?_
   show Ret (chk (lenOk (L.length+B.length)) (chk _ (rec2 (L++B,_)))) _
   exact Ret_chk (lenOk_t (by omega)) (Ret_chk (by rfl) (ih2 _ ⟨by simp,by simp,by simp⟩ (by simp)))
theorem rings_begun_int_ok {L:List Int} {k:Int} (hL:L.length≤1000) (h0:0≤k) (h1:k≤L.length):rings_begun_int fuel (L,k)=some (L.drop k.toNat++L.take k.toNat):=by
 unfold rings_begun_int
 simp only
 have e1:((L.drop k.toNat).take (L.length-k.toNat))=L.drop k.toNat:=List.take_of_length_le (by simp)
 rw[chk_t (by simp[bnb];omega),chk_t (by simp[bnb];omega),e1,List.drop_zero,slices_Concat_int_ok (by simp;omega) (by simp;omega),Option.bind_some]
 generalize L.drop k.toNat++L.take k.toNat=M
 rw[chk_t (by simp[bnb]),List.take_of_length_le (Nat.le_refl _),chk_t (by simp[capIs])]
theorem slices_Concat_api_Kind_ok {A B:List Int} (hA:A.length≤1000) (hB:B.length≤1000):slices_Concat_api_Kind fuel [A,B]=some (A++B):=by
 apply Ret.eq
 unfold slices_Concat_api_Kind
 have l2:(([A,B]:List (List Int)).length:Int)=2:=rfl
 refine Ret_loop (Inv:=fun x:Int×Int=>0≤x.2∧x.2≤2∧x.1=if x.2=0 then(0:Int) else if x.2=1 then(A.length:Int) else A.length+B.length) (m:=fun x=>(2-x.2).toNat) ?_ _ _ ⟨by simp,by simp,by simp⟩ (by simp only[fuel];omega)
 rintro ⟨z,i⟩ rec ⟨i1,i2,i3⟩ ih
 simp only at i1 i2 i3 ⊢
 refine Ret_dec (fun hlt=>?_) fun hge=>?_
 ·rcases(by omega:i=0∨i=1) with rfl | rfl
  ·rw[if_pos rfl] at i3
   refine Ret_chk (inb_t (by omega) (by omega)) ?_
   show Ret (chk (i64b (z+ ((A.length:Nat):Int))) _) _
   refine Ret_chk (i64b_t (by omega) (by omega)) (Ret_dec (fun g=>?_) fun g=>Ret_chk (by rfl) (ih _ ⟨by simp,by simp,?_⟩ (by simp)))
   ·change z+ ((A.length:Nat):Int)<0 at g
    omega
   ·show z+ ((A.length:Nat):Int)=if(1:Int)=0 then 0 else if(1:Int)=1 then(A.length:Int) else _
    rw[if_neg (by omega),if_pos rfl];omega
  ·rw[if_neg (by omega),if_pos rfl] at i3
   refine Ret_chk (inb_t (by omega) (by omega)) ?_
   show Ret (chk (i64b (z+ ((B.length:Nat):Int))) _) _
   refine Ret_chk (i64b_t (by omega) (by omega)) (Ret_dec (fun g=>?_) fun g=>Ret_chk (by rfl) (ih _ ⟨by simp,by simp,?_⟩ (by simp)))
   ·change z+ ((B.length:Nat):Int)<0 at g
    omega
   ·show z+ ((B.length:Nat):Int)=if(2:Int)=0 then 0 else if(2:Int)=1 then(A.length:Int) else _
    rw[if_neg (by omega),if_neg (by omega)];omega
 ·rw[show i=2 by omega,if_neg (by omega),if_neg (by omega)] at i3
  unfold slices_Grow_api_Kind
  rw[inb_t (by simp only;omega) (by simp only;omega),cond_true,Option.bind_some]
  refine Ret_loop (Inv:=fun x:List Int×Int=>0≤x.2∧x.2≤2∧x.1=if x.2=0 then [] else if x.2=1 then A else A++B) (m:=fun x=>(2-x.2).toNat) ?_ _ _ ⟨by simp,by simp,by simp⟩ (by simp only[fuel];omega)
  rintro ⟨L,k⟩ rec2 ⟨j1,j2,j3⟩ ih2
  simp only at j1 j2 j3 ⊢
  refine Ret_dec (fun hlt2=>?_) fun hge2=>Ret_some (by rw[j3,if_neg (by omega),if_neg (by omega)])
  rcases(by omega:k=0∨k=1) with rfl | rfl
  ·rw[if_pos rfl] at j3
   subst j3
   refine Ret_chk (inb_t (by omega) (by omega)) ?_
   show Ret (chk (lenOk (([]:List Int).length+A.length)) (chk _ (rec2 ([]++A,_)))) _
   exact Ret_chk (lenOk_t (by simp;omega)) (Ret_chk (by rfl) (ih2 _ ⟨by simp,by simp,by simp⟩ (by simp)))
  ·rw[if_neg (by omega),if_pos rfl] at j3
   subst j3
   refine Ret_chk (inb_t (by omega) (by omega)) ?_
   show Ret (chk (lenOk (L.length+B.length)) (chk _ (rec2 (L++B,_)))) _
   exact Ret_chk (lenOk_t (by omega)) (Ret_chk (by rfl) (ih2 _ ⟨by simp,by simp,by simp⟩ (by simp)))
theorem rings_begun_api_Kind_ok {L:List Int} {k:Int} (hL:L.length≤1000) (h0:0≤k) (h1:k≤L.length):rings_begun_api_Kind fuel (L,k)=some (L.drop k.toNat++L.take k.toNat):=by
 unfold rings_begun_api_Kind
 simp only
 have e1:((L.drop k.toNat).take (L.length-k.toNat))=L.drop k.toNat:=List.take_of_length_le (by simp)
 rw[chk_t (by simp[bnb];omega),chk_t (by simp[bnb];omega),e1,List.drop_zero,slices_Concat_api_Kind_ok (by simp;omega) (by simp;omega),Option.bind_some]
 generalize L.drop k.toNat++L.take k.toNat=M
 rw[chk_t (by simp[bnb]),List.take_of_length_le (Nat.le_refl _),chk_t (by simp[capIs])]
def rotL (L:List Int) (k:Nat):List Int:=L.drop k++L.take k
theorem rotL_len {L:List Int} {k:Nat} (h:k≤L.length):(rotL L k).length=L.length:=by simp[rotL];omega
structure RIso (E E':List Int) (n:Nat) (f f' τ:Int→Int) (c:Int):Prop where
 rng:∀i:Int,0≤i→i<n→0≤τ i∧τ i<n
 inj:∀i j:Int,0≤i→i<n→0≤j→j<n→τ i=τ j→i=j
 sc:∀i:Int,0≤i→i<n→sc n (τ i)=τ (sc n i)
 a:∀i:Int,0≤i→i<n→E'.getD i.toNat 0=E.getD (τ i).toNat 0-c
 b:∀i:Int,0≤i→i<n→E'.getD (i.toNat+1) 0=E.getD ((τ i).toNat+1) 0-c
 f:∀i:Int,0≤i→i<n→f' i=f (τ i)
section
variable {E E':List Int} {n:Nat} {f f' τ:Int→Int} {c:Int} (h:RIso E E' n f f' τ c)
include h
theorem RIso.bet {i x:Int} (i0:0≤i) (i1:i<n) (x0:0≤x) (x1:x<n):BetR n f' i x↔BetR n f (τ i) (τ x):=by
 have s0:0≤X.sc n i∧X.sc n i<n:=by unfold X.sc;split<;>omega
 unfold BetR
 rw[h.f i i0 i1,h.f x x0 x1,h.f _ s0.1 s0.2,h.sc i i0 i1]
theorem RIso.cross (hc:CrossR E' n f'):CrossR E n f:=by
 obtain⟨i,i0,i1,hc⟩:=hc
 have ri:=h.rng i i0 i1
 have ai:=h.a i i0 i1;have bi:=h.b i i0 i1
 refine⟨τ i,ri.1,ri.2,?_⟩
 rcases hc with⟨j,j0,j1,e1,e2,e3⟩ | ⟨j,j0,j1,e1,e2,e3,e5⟩
 ·have rj:=h.rng j j0 j1
  have aj:=h.a j j0 j1;have bj:=h.b j j0 j1
  refine .inl ⟨τ j,rj.1,rj.2,?_,?_,(h.bet i0 i1 j0 j1).1 e3⟩
  ·unfold frm at *;omega
  ·unfold too at *;omega
 ·have rj:=h.rng j j0 j1
  have aj:=h.a j j0 j1;have bj:=h.b j j0 j1
  have s0:0≤X.sc n j∧X.sc n j<n:=by unfold X.sc;split<;>omega
  refine .inr ⟨τ j,rj.1,rj.2,fun e=>e1 (h.inj _ _ j0 j1 i0 i1 e),by omega,by omega,?_⟩
  rw[←h.bet i0 i1 j0 j1,h.sc j j0 j1,←h.bet i0 i1 s0.1 s0.2]
  exact e5
theorem RIso.wrong {K K':List Int} (hK:∀i:Int,0≤i→i<n→K'.getD i.toNat 0=K.getD (τ i).toNat 0∧(τ i)%2=i%2) (hw:WrongR K' n f'):WrongR K n f:=by
 obtain⟨i,i0,i1,e1,e2⟩:=hw
 have ri:=h.rng i i0 i1
 have hk:=hK i i0 i1
 have s0:0≤X.sc n i∧X.sc n i<n:=by unfold X.sc;split<;>omega
 refine⟨τ i,ri.1,ri.2,by rw[←hk.1];exact e1,?_⟩
 rw[←hk.1]
 refine fun e=>e2 (e.trans ?_)
 unfold kindR
 rw[hk.2,h.sc i i0 i1,h.f i i0 i1,h.f _ s0.1 s0.2]
theorem RIso.ovl {i j:Int} (i0:0≤i) (i1:i<n) (j0:0≤j) (j1:j<n):ovl E' i.toNat j.toNat=X.ovl E (τ i).toNat (τ j).toNat:=by
 have ai:=h.a i i0 i1;have bi:=h.b i i0 i1
 have aj:=h.a j j0 j1;have bj:=h.b j j0 j1
 rw[Bool.eq_iff_iff,ovl_t,ovl_t]
 unfold frm too
 omega
end
theorem rotL_zero (L:List Int):rotL L 0=L:=by simp[rotL]
end X
end Go.Vm
namespace Go.Vm
namespace X
open W Go.Proofs.St
theorem rings_Open_ok {s:List Int×List Int} (h:RValid s) {by_:Int}:rings_Open fuel (s,by_)=some (if 0≤by_∧by_<s.1.length then((rotL s.1 (sc s.1.length by_).toNat,(rotL s.2 (sc s.1.length by_).toNat).take (s.1.length-1)),0) else(([],[]),1)):=by
 have hn:=h.le
 have h2:=h.two
 have hkl:=h.kl
 apply Ret.eq
 unfold rings_Open
 rw[show rings_Check fuel (s.1,s.2)=some 0 from rings_Check_ok h,Option.bind_some]
 refine Ret_dec (fun g=>absurd rfl g) fun _=>?_
 refine Ret_dec (fun g=>Ret_some (by rw[if_neg (by simp only at g;omega)])) fun g=>?_
 refine Ret_dec (fun g2=>Ret_some (by rw[if_neg (by simp only at g2;omega)])) fun g2=>?_
 simp only at g g2 ⊢
 obtain⟨s0,s1,_,_⟩:=h.ends.sc_lt (i:=by_) (by omega) (by omega)
 rw[show rings_of fuel (s.1,s.2)=_ from rings_of_ok h,Option.bind_some,show rings_folded_behind fuel (((s.1,s.2),endR s.1),by_)=some (sc s.1.length by_) from rings_behind_ok hn (by omega) (by omega),Option.bind_some,
  rings_begun_int_ok (by omega) s0 (by omega),Option.bind_some,rings_begun_api_Kind_ok (by omega) s0 (by omega),Option.bind_some,if_pos (by omega)]
 have l2:(s.2.drop (sc s.1.length by_).toNat++s.2.take (sc s.1.length by_).toNat).length=s.2.length:=rotL_len (L:=s.2) (by omega)
 have e1:((s.2.length:Nat):Int)-1=((s.1.length-1:Nat):Int):=by omega
 rw[e1]
 refine Ret_chk (i64b_t (by omega) (by omega)) (Ret_chk (by rw[l2];simp[bnb];omega) (Ret_chk (by simp[bnb]) ?_))
 rw[Int.toNat_natCast]
 refine Ret_chk ?_ (Ret_some rfl)
 simp only[capIs,List.length_take,l2]
 simp
 omega
end X
end Go.Vm
namespace Go.Vm
namespace X
open W Go.Proofs.St
def Valid (s:List Int×List Int):Prop:=s.1.length≤32∧s.1.length=s.2.length+1∧(∀x∈s.1,1≤x∧x≤64)∧∀x∈s.2,1≤x∧x≤3
theorem strips_Check_valid {a:List Int×List Int} (h:Valid a):strips_Check fuel a=some 0:=by
 obtain⟨h1,h2,h3,h4⟩:=h
 apply Ret.eq
 unfold strips_Check
 refine Ret_dec (fun h=>absurd h (by omega)) fun _=>?_
 refine Ret_chk (i64b_t (by omega) (by omega)) ?_
 refine Ret_dec (fun h=>absurd h (by omega)) fun _=>?_
 refine Ret_loop (Inv:=fun x:Int=>0≤x∧x≤a.1.length) (m:=fun x:Int=>((a.1.length:Int)-x).toNat) ?_ _ _ ⟨by omega,by omega⟩ (by unfold fuel;omega)
 intro x rec ⟨i1,i2⟩ ih
 refine Ret_dec (fun hlt=>?_) fun hge=>?_
 ·have:=h3 _ (getD_mem (i:=x.toNat) (by omega))
  refine Ret_chk (inb_t i1 hlt) ?_
  refine Ret_dec (fun h=>absurd h (by omega)) fun _=>Ret_dec (fun h=>absurd h (by omega)) fun _=>Ret_chk (i64b_t (by omega) (by omega)) (ih _ ⟨by omega,by omega⟩ (by omega))
 ·refine Ret_loop (Inv:=fun x:Int=>0≤x∧x≤a.2.length) (m:=fun x:Int=>((a.2.length:Int)-x).toNat) ?_ _ _ ⟨by omega,by omega⟩ (by unfold fuel;omega)
  intro x rec ⟨i1,i2⟩ ih
  refine Ret_dec (fun hlt=>?_) fun hge=>Ret_some rfl
  have:=h4 _ (getD_mem (i:=x.toNat) (by omega))
  refine Ret_chk (inb_t i1 hlt) ?_
  exact Ret_dec (fun h=>absurd h (by omega)) fun _=>Ret_dec (fun h=>absurd h (by omega)) fun _=>Ret_chk (i64b_t (by omega) (by omega)) (ih _ ⟨by omega,by omega⟩ (by omega))
theorem okL_valid {s:List Int×List Int} (h:Valid s):okL s.1=true:=by
 obtain⟨h1,h2,h3,_⟩:=h
 unfold okL
 simp only[Bool.and_eq_true,ble_dec,decide_eq_true_eq]
 exact⟨⟨List.all_eq_true.2 fun x hx=>by simpa using h3 x hx,by omega⟩,h1⟩
theorem strips_Ends_valid {s:List Int×List Int} (h:Valid s):strips_Ends fuel s=some (endsL s.1,0):=by
 unfold strips_Ends endsR
 rw[strips_Check_valid h]
 simp only[decide_true,cond_true,okL_valid h]
theorem endsL_len (L:List Int):(endsL L).length=L.length+1:=by simp[endsL]
theorem from_ok {L K E:List Int} {i:Int} (h0:0≤i) (h1:i+1<E.length) (h2:E.length≤10000):piles_folded_from fuel (((L,K),E),i)=some (frm E i.toNat):=by
 unfold piles_folded_from
 rw[chk_t (inb_t h0 (by simp only;omega)),chk_t (i64b_t (by simp only;omega) (by simp only;omega)),chk_t (inb_t (by simp only;omega) (by simp only;omega))]
 simp only[frm,show(i+1).toNat=i.toNat+1 by omega]
theorem to_ok {L K E:List Int} {i:Int} (h0:0≤i) (h1:i+1<E.length) (h2:E.length≤10000):piles_folded_to fuel (((L,K),E),i)=some (too E i.toNat):=by
 unfold piles_folded_to
 rw[chk_t (inb_t h0 (by simp only;omega)),chk_t (i64b_t (by simp only;omega) (by simp only;omega)),chk_t (inb_t (by simp only;omega) (by simp only;omega))]
 simp only[too,show(i+1).toNat=i.toNat+1 by omega]
theorem of_ok {s:List Int×List Int} (h:Valid s):piles_of fuel s=some ((s,endsL s.1),0):=by
 unfold piles_of
 rw[show(s.1,s.2)=s from rfl,strips_Ends_valid h]
 simp only[Option.bind_some]
 rw[chk_t (by simp[capIs])]
theorem ranks_ok {p:List Int} {n:Nat} (hp:In n p) (hd:p.Nodup) (hn:n≤32) (hl:p.length≤10000):Ret (piles_ranks fuel p) fun r=>Rk p r∧r.length=32:=by
 unfold piles_ranks
 refine Ret_loop (Inv:=fun x:Int×List Int=>0≤x.1∧x.1≤p.length∧x.2.length=32∧∀k:Nat,k<x.1.toNat→x.2.getD (p.getD k 0).toNat 0=k) (m:=fun x=>((p.length:Int)-x.1).toNat) ?_ _ _ ⟨by simp,by simp,rfl,by simp⟩ (by simp only[fuel];omega)
 rintro ⟨i,r⟩ rec ⟨i1,i2,i3,i4⟩ ih
 simp only at i1 i2 i3 i4 ⊢
 refine Ret_dec (fun hlt=>?_) fun hge=>?_
 ·have hx:=hp _ (getD_mem (L:=p) (i:=i.toNat) (by omega))
  have:=set_rk hd hp (by omega) (by omega) i4
  rw[show((i.toNat:Nat):Int)=i by omega,show i.toNat+1=(i+1).toNat by omega] at this
  exact Ret_chk (inb_t (by omega) (by omega)) (Ret_chk (inb_t (by omega) (by omega)) (Ret_chk (i64b_t (by omega) (by omega)) (ih _ ⟨by simp only;omega,by simp only;omega,by simp only[List.length_set];exact i3,this⟩ (by simp only;omega))))
 ·exact Ret_some ⟨fun k hk=>i4 k (by omega),i3⟩
def Bet (f:Int→Int) (i x:Int):Prop:=min (f i) (f (i+1))<f x∧f x<max (f i) (f (i+1))
instance (f:Int→Int) (i x:Int):Decidable (Bet f i x):=by unfold Bet;infer_instance
def CrossC (E:List Int) (n:Nat) (f:Int→Int):Prop:=∃i:Int,0≤i∧i+1<n∧((∃j:Int,0≤j∧j<n∧frm E j.toNat<E.getD (i.toNat+1) 0∧E.getD (i.toNat+1) 0<too E j.toNat∧Bet f i j)∨
 ∃j:Int,0≤j∧j+1<n∧j≠i∧E.getD (j.toNat+1) 0=E.getD (i.toNat+1) 0∧(E.getD (i.toNat+1) 0<E.getD j.toNat 0↔E.getD (i.toNat+1) 0<E.getD i.toNat 0)∧¬(Bet f i j↔Bet f i (j+1)))
theorem listed_ord {s:List Int×List Int} (h:Valid s) {p:List Int} (hp:Ord s.1.length p):piles_listed fuel (s,p)=some ((s,endsL s.1),0):=by
 have h1:=h.1
 have hle:=hp.len
 apply Ret.eq
 unfold piles_listed
 rw[show(s.1,s.2)=s from rfl,of_ok h,Option.bind_some]
 refine Ret_dec (fun g=>absurd rfl g) fun _=>Ret_dec (fun g=>absurd (by simp only;omega) g) fun _=>?_
 refine Ret_loop (Inv:=fun x:Int×(Unit×(Unit×Unit))=>0≤x.1∧x.1≤p.length) (m:=fun x=>((p.length:Int)-x.1).toNat) ?_ _ _ ⟨by simp,by simp⟩ (by simp only[fuel];omega)
 rintro ⟨i,_⟩ rec ⟨i1,i2⟩ ih
 simp only at i1 i2 ⊢
 refine Ret_dec (fun hlt=>?_) fun hge=>Ret_chk (by simp[capIs]) (Ret_some rfl)
 rw[contains_ok (by omega),Option.bind_some,decide_eq_true (hp.memI i1 (by omega))]
 exact Ret_chk (i64b_t (by omega) (by omega)) (ih _ ⟨by simp only;omega,by simp only;omega⟩ (by simp only;omega))
theorem between_ok {r:List Int} {i:Int} (h0:0≤i) (h1:i+1<32) (v:Int):piles_between fuel (r,(i,v))=some (decide (min (r.getD i.toNat 0) (r.getD (i+1).toNat 0)<v∧v<max (r.getD i.toNat 0) (r.getD (i+1).toNat 0))):=by
 unfold piles_between
 simp only
 rw[chk_t (inb_t h0 (by omega)),chk_t (i64b_t (by omega) (by omega)),chk_t (inb_t (by omega) (by omega)),chk_t (inb_t h0 (by omega)),chk_t (i64b_t (by omega) (by omega)),chk_t (inb_t (by omega) (by omega))]
 by_cases g:min (r.getD i.toNat 0) (r.getD (i+1).toNat 0)<v
 ·rw[decide_eq_true g,cond_true]
  congr 1
  rw[Bool.eq_iff_iff,decide_eq_true_eq,decide_eq_true_eq]
  exact⟨fun h=>⟨g,h⟩,fun h=>h.2⟩
 ·rw[decide_eq_false g,cond_false]
  congr 1
  symm
  exact decide_eq_false fun h=>g h.1
def kindF (f:Int→Int) (i:Int):Int:=if f (i+i%2)<f (i+1-i%2) then 2 else 1
theorem kind_ok {r:List Int} {i:Int} (h0:0≤i) (h1:i+1<32):piles_kind fuel (r,i)=some (kindF (fun x=>r.getD x.toNat 0) i):=by
 unfold piles_kind kindF
 simp only
 rw[chk_t (i64b_t (by omega) (by omega)),chk_t (by rw[Bool.and_eq_true];exact⟨decide_eq_true (by omega),rfl⟩),chk_t (i64b_t (by omega) (by omega)),chk_t (inb_t (by omega) (by omega)),chk_t (i64b_t (by omega) (by omega)),chk_t (i64b_t (by omega) (by omega)),chk_t (i64b_t (by omega) (by omega)),chk_t (inb_t (by omega) (by omega))]
 rw[show 2*i+1-(i+1-i%2)=i+i%2 by omega]
 by_cases g:r.getD (i+i%2).toNat 0<r.getD (i+1-i%2).toNat 0
 ·rw[decide_eq_true g,cond_true,if_pos g]
 ·rw[decide_eq_false g,cond_false,if_neg g]
def CrossA (E:List Int) (n:Nat) (f:Int→Int) (i:Int):Prop:=(∃j:Int,0≤j∧j<n∧frm E j.toNat<E.getD (i.toNat+1) 0∧E.getD (i.toNat+1) 0<too E j.toNat∧Bet f i j)∨
 ∃j:Int,0≤j∧j+1<n∧j≠i∧E.getD (j.toNat+1) 0=E.getD (i.toNat+1) 0∧(E.getD (i.toNat+1) 0<E.getD j.toNat 0↔E.getD (i.toNat+1) 0<E.getD i.toNat 0)∧¬(Bet f i j↔Bet f i (j+1))
theorem mem_loop {k:Nat} {E:List Int} {t:Int} {rt:Bool} {x:Int}:x∈(loopL k E t rt).map (fun(i:Nat)=>(i:Int))↔0≤x∧x<k∧E.getD (x.toNat+1) 0=t∧decide (t<E.getD x.toNat 0)=rt:=by
 simp only[loopL,List.mem_map,List.mem_filter,List.mem_range,loopP,Bool.and_eq_true,decide_eq_true_eq,beq_iff_eq]
 constructor
 ·rintro ⟨a,⟨h1,h2,h3⟩,rfl⟩
  rw[Int.toNat_natCast]
  exact⟨by omega,by omega,h2,h3⟩
 ·rintro ⟨h1,h2,h3,h4⟩
  exact⟨x.toNat,⟨by omega,h3,h4⟩,by omega⟩
theorem crosses_ok {s:List Int×List Int} (h:Valid s) {r:List Int} (hr:r.length=32):Ret (piles_folded_crosses fuel ((s,endsL s.1),r)) fun b=>(b=true↔CrossC (endsL s.1) s.1.length fun x=>r.getD x.toNat 0):=by
 have hel:=endsL_len s.1
 have hn:=h.1
 have hk:=h.2.1
 generalize hf:(fun x:Int=>r.getD x.toNat 0)=f
 have hfx:∀x:Int,r.getD x.toNat 0=f x:=fun x=>by rw[←hf]
 unfold piles_folded_crosses
 refine Ret_loop (Inv:=fun x:Int×(Bool×Unit)=>0≤x.1∧x.1≤s.2.length∧x.2.1=false∧∀i:Int,0≤i→i<x.1→¬CrossA (endsL s.1) s.1.length f i) (m:=fun x=>((s.2.length:Int)-x.1).toNat) ?_ _ _ ⟨by simp,by simp,rfl,fun i a b=>by simp at b;omega⟩ (by simp only[fuel];omega)
 rintro ⟨i,bad,_⟩ rec ⟨i1,i2,i3,i4⟩ ih
 simp only at i1 i2 i3 i4 ⊢
 subst i3
 refine Ret_dec (fun hlt=>?_) fun hge=>?_
 ·have ei:(i+1).toNat=i.toNat+1:=by omega
  have found:CrossA (endsL s.1) s.1.length f i→Ret (some true) fun b=>(b=true↔CrossC (endsL s.1) s.1.length f):=fun hc=>Ret_some ⟨fun _=>⟨i,i1,by omega,hc⟩,fun _=>rfl⟩
  refine Ret_chk (i64b_t (by omega) (by omega)) (Ret_chk (inb_t (by omega) (by omega)) ?_)
  rw[ei]
  have bt:∀x:Int,piles_between fuel (r,(i,f x))=some (decide (Bet f i x)):=fun x=>by
   rw[between_ok i1 (by omega)]
   rw[hfx,hfx]
   rfl
  refine Ret_loop (Inv:=fun x:Int×(Bool×Unit)=>0≤x.1∧x.1≤s.1.length∧x.2.1=false∧∀j:Int,0≤j→j<x.1→¬(frm (endsL s.1) j.toNat< (endsL s.1).getD (i.toNat+1) 0∧(endsL s.1).getD (i.toNat+1) 0<too (endsL s.1) j.toNat∧Bet f i j)) (m:=fun x=>((s.1.length:Int)-x.1).toNat) ?_ _ _ ⟨by simp,by simp,rfl,fun i a b=>by simp at b;omega⟩ (by simp only[fuel];omega)
  rintro ⟨j,bad,_⟩ rec2 ⟨j1,j2,j3,j4⟩ ih2
  simp only at j1 j2 j3 j4 ⊢
  subst j3
  refine Ret_dec (fun hlt2=>?_) fun hge2=>?_
  ·have nxt:¬(frm (endsL s.1) j.toNat< (endsL s.1).getD (i.toNat+1) 0∧(endsL s.1).getD (i.toNat+1) 0<too (endsL s.1) j.toNat∧Bet f i j)→Ret (chk (i64b (j+1)) (rec2 (j+1,(false,())))) fun b=>(b=true↔CrossC (endsL s.1) s.1.length f):=fun hc=>by
    refine Ret_chk (i64b_t (by omega) (by omega)) (ih2 _ ⟨by simp only;omega,by simp only;omega,rfl,fun j' a b=>?_⟩ (by simp only;omega))
    simp only at b
    by_cases e:j'=j
    ·subst e;exact hc
    ·exact j4 j' a (by omega)
   rw[from_ok j1 (by omega) (by omega),Option.bind_some]
   refine Ret_dec (fun g1=>?_) fun g1=>nxt fun hh=>g1 hh.1
   rw[to_ok j1 (by omega) (by omega),Option.bind_some]
   refine Ret_dec (fun g2=>?_) fun g2=>nxt fun hh=>g2 hh.2.1
   refine Ret_chk (inb_t (by omega) (by omega)) ?_
   rw[hfx,bt,Option.bind_some]
   refine Ret_dec (fun g3=>found (.inl ⟨j,j1,by omega,g1,g2,g3⟩)) fun g3=>nxt fun hh=>g3 hh.2.2
  ·refine Ret_chk (inb_t (by omega) (by omega)) ?_
   have hla:¬ ∃j:Int,0≤j∧j<s.1.length∧frm (endsL s.1) j.toNat< (endsL s.1).getD (i.toNat+1) 0∧(endsL s.1).getD (i.toNat+1) 0<too (endsL s.1) j.toNat∧Bet f i j:=fun⟨j',a,b,c⟩=>j4 j' a (by omega) c
   unfold loopRun
   simp only
   rw[show(Nat.blt (List.length (α:=Int) s.2) (List.length (α:=Int) (endsL s.1))&&Nat.ble (List.length (α:=Int) (endsL s.1)) 1000000)=true by
    simp[Nat.blt_eq]
    omega,cond_true,Option.bind_some]
   refine Ret_list (Inv:=fun(l:List Int) (x:Bool×Unit)=>x.1=false∧(∀y∈l,0≤y∧y<s.2.length∧(endsL s.1).getD (y.toNat+1) 0=(endsL s.1).getD (i.toNat+1) 0∧decide ((endsL s.1).getD (i.toNat+1) 0< (endsL s.1).getD y.toNat 0)=decide ((endsL s.1).getD (i.toNat+1) 0< (endsL s.1).getD i.toNat 0))∧
    ∀j:Int,0≤j→j<s.2.length→j≠i→(endsL s.1).getD (j.toNat+1) 0=(endsL s.1).getD (i.toNat+1) 0→decide ((endsL s.1).getD (i.toNat+1) 0< (endsL s.1).getD j.toNat 0)=decide ((endsL s.1).getD (i.toNat+1) 0< (endsL s.1).getD i.toNat 0)→(Bet f i j↔Bet f i (j+1))∨j∈l) ?_ ?_ _ _ ⟨rfl,fun y hy=>mem_loop.1 hy,fun j a b c d e=>.inr (mem_loop.2 ⟨a,b,d,e⟩)⟩
   ·rintro ⟨bad,_⟩ ⟨k1,_,k2⟩
    simp only at k1
    subst k1
    refine Ret_chk (i64b_t (by omega) (by omega)) (ih _ ⟨by simp only;omega,by simp only;omega,rfl,fun i' a b=>?_⟩ (by simp only;omega))
    simp only at b
    by_cases e:i'=i
    ·subst e
     rintro (hh | ⟨j,a1,a2,a3,a4,a5,a6⟩)
     ·exact hla hh
     ·rcases k2 j a1 (by omega) a3 a4 (by rw[decide_eq_decide];exact a5) with hh | hh
      ·exact a6 hh
      ·cases hh
    ·exact i4 i' a (by omega)
   ·rintro y l rec3 ⟨bad,_⟩ ⟨k1,k2,k3⟩ ih3
    simp only at k1
    subst k1
    obtain⟨y0,y1,y2,y3⟩:=k2 y List.mem_cons_self
    have nxt:(y≠i→(Bet f i y↔Bet f i (y+1)))→Ret (rec3 (false,())) fun b=>(b=true↔CrossC (endsL s.1) s.1.length f):=fun hc=>by
     refine ih3 _ ⟨rfl,fun z hz=>k2 z (List.mem_cons_of_mem _ hz),fun j a b c d e=>?_⟩
     rcases k3 j a b c d e with hh | hh
     ·exact .inl hh
     ·rcases List.mem_cons.1 hh with rfl | hh
      ·exact .inl (hc c)
      ·exact .inr hh
    refine Ret_dec (fun g=>?_) fun g=>nxt fun hh=>absurd hh g
    refine Ret_chk (inb_t (by omega) (by omega)) ?_
    rw[hfx,bt,Option.bind_some]
    refine Ret_chk (i64b_t (by omega) (by omega)) (Ret_chk (inb_t (by omega) (by omega)) ?_)
    rw[hfx,bt,Option.bind_some]
    by_cases e:Bet f i y↔Bet f i (y+1)
    ·rw[show(decide (Bet f i y)==decide (Bet f i (y+1)))=true by rw[beq_iff_eq,decide_eq_decide];exact e]
     exact nxt fun _=>e
    ·rw[show(decide (Bet f i y)==decide (Bet f i (y+1)))=false by rw[beq_eq_false_iff_ne,ne_eq,decide_eq_decide];exact e]
     exact found (.inr ⟨y,y0,by omega,g,y2,by rw[←decide_eq_decide];exact y3,e⟩)
 ·refine Ret_some ⟨fun hh=>(by cases hh),?_⟩
  rintro ⟨j,a,b,c⟩
  exact absurd c (i4 j a (by omega))
theorem Bet_congr {f g:Int→Int} {n:Nat} (hfg:∀x:Int,0≤x→x<n→f x=g x) {i x:Int} (h0:0≤i) (h1:i+1<n) (hx:0≤x) (hx':x<n):Bet f i x↔Bet g i x:=by
 unfold Bet
 rw[hfg i h0 (by omega),hfg (i+1) (by omega) h1,hfg x hx hx']
theorem CrossC_congr {E:List Int} {n:Nat} {f g:Int→Int} (hfg:∀x:Int,0≤x→x<n→f x=g x):CrossC E n f→CrossC E n g:=by
 rintro ⟨i,h0,h1,⟨j,a1,a2,a3,a4,a5⟩ | ⟨j,a1,a2,a3,a4,a5,a6⟩⟩
 ·exact⟨i,h0,h1,.inl ⟨j,a1,a2,a3,a4,(Bet_congr hfg h0 h1 a1 a2).1 a5⟩⟩
 ·exact⟨i,h0,h1,.inr ⟨j,a1,a2,a3,a4,a5,fun h=>a6 (by rw[Bet_congr hfg h0 h1 a1 (by omega),Bet_congr hfg h0 h1 (by omega) (by omega)];exact h)⟩⟩
def KindBad (K:List Int) (p:List Int):Prop:=∃i:Int,0≤i∧i<K.length∧K.getD i.toNat 0≠3∧K.getD i.toNat 0≠kindF (rkF p) i
open Classical in
noncomputable def chkV (s:List Int×List Int) (p:List Int):Int:=if CrossC (endsL s.1) s.1.length (rkF p) then 12 else if KindBad s.2 p then 13 else 0
theorem crosses_ord {s:List Int×List Int} (h:Valid s) {p r:List Int} (hp:Ord s.1.length p) (hr:r.length=32) (hk:Rk p r):Ret (piles_folded_crosses fuel ((s,endsL s.1),r)) fun b=>(b=true↔CrossC (endsL s.1) s.1.length (rkF p)):=by
 refine(crosses_ok h hr).mono fun b hb=>hb.trans ⟨CrossC_congr (hk.eqF hp),CrossC_congr fun x h0 h1=>(hk.eqF hp x h0 h1).symm⟩
theorem kindF_congr {f g:Int→Int} {i:Int} (h1:f (i+i%2)=g (i+i%2)) (h2:f (i+1-i%2)=g (i+1-i%2)):kindF f i=kindF g i:=by
 unfold kindF
 rw[h1,h2]
theorem kind_ord {s:List Int×List Int} (h:Valid s) {p r:List Int} (hp:Ord s.1.length p) (hk:Rk p r) {i:Int} (h0:0≤i) (h1:i<s.2.length):piles_kind fuel (r,i)=some (kindF (rkF p) i):=by
 have:=h.1
 have:=h.2.1
 rw[kind_ok h0 (by omega)]
 rw[kindF_congr (f:=fun x=>r.getD x.toNat 0) (g:=rkF p) (hk.eqF hp _ (by omega) (by omega)) (hk.eqF hp _ (by omega) (by omega))]
theorem Check_ok {s:List Int×List Int} (h:Valid s) {p:List Int} (hp:Ord s.1.length p):piles_Check fuel (s,p)=some (chkV s p):=by
 classical
 apply Ret.eq
 have hn:=h.1
 have hk2:=h.2.1
 have hl:=hp.len
 unfold piles_Check
 rw[show((s.1,s.2),p)=(s,p) from rfl,listed_ord h hp,Option.bind_some]
 refine Ret_dec (fun g=>absurd rfl g) fun _=>?_
 refine Ret_bind (ranks_ok (p:=p) hp.in hp.nodup hn (by omega)) fun r ⟨hr,hr2⟩=>?_
 refine Ret_bind (crosses_ord h hp hr2 hr) fun b hb=>?_
 unfold chkV
 cases b with
 | true=>exact Ret_some (by rw[if_pos (hb.1 rfl)])
 | false=>
   rw[if_neg (fun h=>by cases hb.2 h)]
   refine Ret_loop (Inv:=fun i:Int=>0≤i∧i≤s.2.length∧∀j:Int,0≤j→j<i→¬(s.2.getD j.toNat 0≠3∧s.2.getD j.toNat 0≠kindF (rkF p) j)) (m:=fun i=>((s.2.length:Int)-i).toNat) ?_ _ _ ⟨by simp,by simp,fun j a b=>by omega⟩ (by simp only[fuel];omega)
   rintro i rec ⟨i1,i2,i3⟩ ih
   simp only
   refine Ret_dec (fun hlt=>?_) fun hge=>?_
   ·have nxt:¬(s.2.getD i.toNat 0≠3∧s.2.getD i.toNat 0≠kindF (rkF p) i)→Ret (chk (i64b (i+1)) (rec (i+1))) fun x=>x=if KindBad s.2 p then 13 else 0:=fun hc=>by
     refine Ret_chk (i64b_t (by omega) (by omega)) (ih _ ⟨by omega,by omega,fun j a b=>?_⟩ (by omega))
     by_cases e:j=i
     ·subst e;exact hc
     ·exact i3 j a (by omega)
    refine Ret_chk (inb_t (by omega) (by omega)) (Ret_dec (fun g=>?_) fun g=>nxt fun hh=>g hh.1)
    rw[kind_ord h hp hr i1 hlt,Option.bind_some]
    exact Ret_dec (fun g2=>Ret_some (by rw[if_pos ⟨i,i1,hlt,g,g2⟩])) fun g2=>nxt fun hh=>g2 hh.2
   ·exact Ret_some (by rw[if_neg];rintro ⟨j,a,b,c⟩;exact i3 j a (by omega) c)
end X
end Go.Vm
namespace Go.Vm
namespace X
open W Go.Proofs.St
def kindL (n:Nat) (f:Int→Int):List Int:=(List.range n).map fun(i:Nat)=>kindR n f i
theorem kindL_len {n:Nat} {f:Int→Int}:(kindL n f).length=n:=by simp[kindL]
theorem kindL_getD {n:Nat} {f:Int→Int} {i:Nat} (h:i<n):(kindL n f).getD i 0=kindR n f i:=by
 simp[kindL,List.getD,List.getElem?_range h]
theorem kindR_bd {n:Nat} {f:Int→Int} {i:Int}:kindR n f i=1∨kindR n f i=2:=by
 unfold kindR
 split<;>split<;>simp
theorem kindL_mem {n:Nat} {f:Int→Int} {x:Int} (h:x∈kindL n f):x=1∨x=2:=by
 obtain⟨i,_,rfl⟩:=List.mem_map.1 h
 exact kindR_bd
theorem RValid.kinded {s:List Int×List Int} (h:RValid s) (f:Int→Int):RValid (s.1,kindL s.1.length f):=
 ⟨h.le,h.two,h.even,kindL_len,h.lens,fun x hx=>by rcases kindL_mem hx with rfl | rfl<;>omega,h.closed⟩
theorem rings_Kinds_ok {s:List Int×List Int} (h:RValid s) {p:List Int} (hp:Ord s.1.length p) (hc:¬CrossR (endR s.1) s.1.length (rkF p)):
  rings_Kinds fuel (s,p)=some ((s.1,kindL s.1.length (rkF p)),0):=by
 have hn:=h.le
 have hl:=hp.len
 have hkl:=h.kl
 apply Ret.eq
 unfold rings_Kinds
 refine Ret_bind (rings_Valid_ok h hp) fun e he=>?_
 have he2:e=0∨e=13:=by
  by_cases w:WrongR s.2 s.1.length (rkF p)
  ·exact .inr (he.2.1 hc w)
  ·exact .inl (he.2.2 hc w)
 have body:Ret ((rings_of fuel (s.1,s.2)).bind fun r2=>(rings_rank fuel p).bind fun r3=>(slices_Clone_int fuel s.1).bind fun r4=>chk (bnb 0 ((r4.length:Nat):Int) r4.length&&decide (((r4.length:Nat):Int)≤((r4.length:Nat):Int))&&decide (((r4.length:Nat):Int)≤((r4.length:Nat):Int))) (chk (decide (0≤((s.2.length:Nat):Int))&&decide (((s.2.length:Nat):Int)≤((s.2.length:Nat):Int))&&decide (((s.2.length:Nat):Int)≤1000000)) (loopF (fun rec5 (x5:(Int×((List Int)×Option Nat)))=>bif(decide (x5.1< (((List.replicate (α:=Int) s.2.length 0).length:Nat):Int))) then((rings_folded_kind fuel (((r2.1.1,r2.1.2),r2.2),(r3,x5.1))).bind fun r6=>chk (inb x5.1 x5.2.1.length) (chk (i64b (x5.1+1)) (rec5 ((x5.1+1),((x5.2.1.set x5.1.toNat r6),x5.2.2))))) else(chk (((Nat.beq 0 0)&&(capIs (some r4.length) (r4.take r4.length).length))&&(capIs x5.2.2 x5.2.1.length)) (some (((r4.take r4.length),x5.2.1),(0:Int))))) fuel (0,((List.replicate (α:=Int) s.2.length 0),(some s.2.length)))))) (fun x=>x=((s.1,kindL s.1.length (rkF p)),0)):=by
  rw[show rings_of fuel (s.1,s.2)=some (s,endR s.1) from rings_of_ok h,Option.bind_some]
  refine Ret_bind (rings_rank_ok hp.in hp.nodup hn (by omega)) fun r hr=>?_
  have hfg:=hr.rk.eqF hp
  unfold slices_Clone_int
  rw[chk_t (lenOk_t (by omega)),Option.bind_some,List.nil_append]
  refine Ret_chk (by simp[bnb]) (Ret_chk (by simp;omega) ?_)
  refine Ret_loop (Inv:=fun x:Int×(List Int×Option Nat)=>0≤x.1∧x.1≤s.1.length∧x.2.1.length=s.1.length∧x.2.2=some s.2.length∧∀k:Nat,(k:Int)<x.1→x.2.1.getD k 0=kindR s.1.length (rkF p) k) (m:=fun x=>((s.1.length:Int)-x.1).toNat) ?_ _ _ ⟨by simp,by simp,by simp;omega,rfl,fun k hk=>by simp only at hk;omega⟩ (by simp only[fuel];omega)
  rintro ⟨i,K,cp⟩ rec ⟨i1,i2,i3,i4,i5⟩ ih
  simp only[List.length_replicate] at i1 i2 i3 i4 i5 ⊢
  subst i4
  refine Ret_dec (fun hlt=>?_) fun hge=>?_
  ·rw[show rings_folded_kind fuel (((s.1,s.2),endR s.1),(r,i))=some (kindR s.1.length (fun x=>r.getD x.toNat 0) i) from rings_kind_ok h i1 (by omega),Option.bind_some,kindR_congr hfg i1 (by omega)]
   refine Ret_chk (inb_t (by omega) (by omega)) (Ret_chk (i64b_t (by omega) (by omega)) (ih _ ⟨by simp only;omega,by simp only;omega,by simp only[List.length_set];exact i3,rfl,fun k hk=>?_⟩ (by simp only;omega)))
   simp only at hk ⊢
   rw[getD_set (by omega)]
   split
   ·next e=>rw[e,show((i.toNat:Nat):Int)=i by omega]
   ·exact i5 k (by omega)
  ·have eK:K=kindL s.1.length (rkF p):=ext_getD (by rw[kindL_len];exact i3) fun k hk=>by
    rw[kindL_getD (by omega)]
    exact i5 k (by omega)
   refine Ret_chk ?_ (Ret_some ?_)
   ·rw[List.take_of_length_le (Nat.le_refl _)]
    simp[capIs];omega
   ·rw[List.take_of_length_le (Nat.le_refl _),eK]
 refine Ret_dec (fun g=>Ret_dec (fun g2=>by omega) fun g2=>body) fun g=>body
theorem kind_sum {n:Nat} {f:Int→Int}:∀k:Nat, -(k:Int)≤sumW (valR n f) 0 k∧sumW (valR n f) 0 k≤k
 | 0=>by simp[sumW]
 | k+1=>by
   have ih:=kind_sum (n:=n) (f:=f) k
   have:valR n f (0+k)=1∨valR n f (0+k)= -1:=by
    unfold valR
    rcases kindR_bd (n:=n) (f:=f) (i:=((0+k:Nat):Int)) with e | e<;>rw[e]<;>simp
   rw[sumW]
   omega
theorem valR_step {n:Nat} {f:Int→Int} {i:Int} (h:0≤i):sumW (valR n f) 0 (i+1).toNat=sumW (valR n f) 0 i.toNat+ (3-2*kindR n f i):=by
 rw[show(i+1).toNat=i.toNat+1 by omega,sumW,Nat.zero_add,valR,show((i.toNat:Nat):Int)=i by omega]
theorem rings_Difference_ok {s:List Int×List Int} (h:RValid s) (f:Int→Int):rings_Difference fuel (s.1,kindL s.1.length f)=some (sumW (valR s.1.length f) 0 s.1.length,0):=by
 have hn:=h.le
 have hK:=h.kinded f
 apply Ret.eq
 unfold rings_Difference
 rw[show rings_Check fuel ((s.1,kindL s.1.length f).1,(s.1,kindL s.1.length f).2)=some 0 from rings_Check_ok hK,Option.bind_some]
 refine Ret_dec (fun g=>absurd rfl g) fun _=>?_
 refine Ret_loop (Inv:=fun x:Int×Int=>0≤x.2∧x.2≤s.1.length∧x.1=sumW (valR s.1.length f) 0 x.2.toNat) (m:=fun x=>((s.1.length:Int)-x.2).toNat) ?_ _ _ ⟨by simp,by simp,rfl⟩ (by simp only[fuel];omega)
 rintro ⟨z,i⟩ rec ⟨i1,i2,i3⟩ ih
 simp only at i1 i2 i3 ⊢
 rw[kindL_len]
 refine Ret_dec (fun hlt=>?_) fun hge=>Ret_some (by rw[i3,show i.toNat=s.1.length by omega])
 have hb:=kind_sum (n:=s.1.length) (f:=f) i.toNat
 have hk:=kindL_getD (n:=s.1.length) (f:=f) (i:=i.toNat) (by omega)
 rw[show((i.toNat:Nat):Int)=i by omega] at hk
 have hst:=valR_step (n:=s.1.length) (f:=f) i1
 rw[hk]
 refine Ret_chk (inb_t (by omega) (by omega)) (Ret_dec (fun g=>?_) fun g=>Ret_dec (fun g2=>?_) fun g2=>?_)
 ·refine Ret_chk (i64b_t (by omega) (by omega)) (Ret_chk (i64b_t (by omega) (by omega)) (ih _ ⟨by simp only;omega,by simp only;omega,?_⟩ (by simp only;omega)))
  simp only
  rw[hst,i3,g];omega
 ·refine Ret_chk (i64b_t (by omega) (by omega)) (Ret_chk (i64b_t (by omega) (by omega)) (ih _ ⟨by simp only;omega,by simp only;omega,?_⟩ (by simp only;omega)))
  simp only
  rw[hst,i3,g2];omega
 ·rcases kindR_bd (n:=s.1.length) (f:=f) (i:=i) with e | e
  ·exact absurd e g
  ·exact absurd e g2
theorem RkF_of {n:Nat} {p:List Int} (hp:Ord n p):RkF n (rkF p) where
 lo x hx:=rkF_nonneg p x
 hi x hx:=by
  have:=at_rkF (hp.mem hx)
  have:=hp.len
  omega
 inj x y hx hy e:=by
  have:=rkF_inj (hp.mem hx) (hp.mem hy) e
  omega
theorem endsL_endR (L:List Int):endsL L=endR L:=by
 have:∀i,eAt L i=eR L i:=fun i=>by
  induction i with
  | zero=>rfl
  | succ i ih=>rw[eAt,eR,ih]
 unfold endsL endR
 exact List.map_congr_left fun i _=>this i
theorem opened_ok {s:List Int×List Int} (h:RValid s) {p:List Int} (hp:Ord s.1.length p) (hc:¬CrossR (endR s.1) s.1.length (rkF p)):piles_Check fuel ((s.1,(kindL s.1.length (rkF p)).take (s.1.length-1)),p)=some 0:=by
 have hn:=h.two
 have hlk:((kindL s.1.length (rkF p)).take (s.1.length-1)).length=s.1.length-1:=by rw[List.length_take,kindL_len];omega
 have hv:Valid (s.1,(kindL s.1.length (rkF p)).take (s.1.length-1)):=by
  refine⟨h.le,?_,h.lens,fun x hx=>?_⟩
  ·simp only[hlk];omega
  ·rcases kindL_mem (List.mem_of_mem_take hx) with rfl | rfl<;>omega
 rw[Check_ok hv hp]
 unfold chkV
 have esc:∀i:Int,i+1<s.1.length→sc s.1.length i=i+1:=fun i hi=>by unfold sc;rw[if_pos hi]
 rw[if_neg,if_neg]
 ·rintro ⟨i,i0,i1,e1,e2⟩
  simp only[hlk] at i1
  refine e2 ?_
  have:((kindL s.1.length (rkF p)).take (s.1.length-1)).getD i.toNat 0=(kindL s.1.length (rkF p)).getD i.toNat 0:=by
   rw[List.getD,List.getD,List.getElem?_take,if_pos (by omega)]
  show((kindL s.1.length (rkF p)).take (s.1.length-1)).getD i.toNat 0=_
  rw[this,kindL_getD (by omega),show((i.toNat:Nat):Int)=i by omega]
  unfold kindR kindF
  rw[esc i (by omega)]
  by_cases c:i%2=0
  ·rw[if_pos c,c,Int.add_zero,Int.sub_zero]
  ·rw[if_neg c,show i%2=1 by omega,show i+1-1=i by omega]
 ·intro hh
  apply hc
  show CrossR (endR s.1) s.1.length (rkF p)
  have hh:CrossC (endsL s.1) s.1.length (rkF p):=hh
  rw[endsL_endR] at hh
  obtain⟨i,i0,i1,hh⟩:=hh
  have bet:∀x,Bet (rkF p) i x↔BetR s.1.length (rkF p) i x:=fun x=>by unfold Bet BetR;rw[esc i i1]
  refine⟨i,i0,by omega,?_⟩
  rcases hh with⟨j,j0,j1,e1,e2,e3⟩ | ⟨j,j0,j1,e1,e2,e3,e5⟩
  ·exact .inl ⟨j,j0,j1,e1,e2,(bet j).1 e3⟩
  ·refine .inr ⟨j,j0,by omega,e1,e2,e3,?_⟩
   rw[esc j j1,←bet,←bet]
   exact e5
set_option maxRecDepth 100000 in
set_option maxHeartbeats 2000000 in
theorem law22_RingsDifference_true {a0 a1 y:List Int} {l:Int} (h0:bytes a0) (h1:bytes a1) (hl:0≤l∧l≤255) (hy:bytes y):law22_RingsDifference fuel (((a0,a1),(l,())),y)=some true:=by
 apply Ret.eq
 unfold law22_RingsDifference
 refine Ret_bind (law22_N_Of_ok (a:=((a0,a1),(l,()))) h0 h1 hl) fun s ⟨h,h8,_⟩=>?_
 have hn:=h.le
 have h2:=h.two
 have fin:Ret ((law22_lives fuel ()).bind fun r5=>some r5) (fun x=>x=true):=by rw[lives22];exact Ret_some rfl
 refine Ret_bind (O_Of_ok hy (n:=s.1.length) (by omega)) fun p hp=>?_
 refine Ret_bind (law22_check_ok h hp) fun e he=>?_
 refine Ret_jn (fun x:List Int×(List Int×List Int)=>x.2=s∧Ord s.1.length x.1∧¬CrossR (endR s.1) s.1.length (rkF x.1)) (fun x ⟨x1,x2,x3⟩=>?_) fun j hj=>?_
 ·obtain⟨q,s'⟩:=x
  simp only at x1 x2 x3
  subst x1
  have hK:=h.kinded (rkF q)
  simp only
  rw[show rings_Kinds fuel ((s'.1,s'.2),q)=_ from rings_Kinds_ok h x2 x3,Option.bind_some]
  refine Ret_dec (fun g=>absurd rfl g) fun _=>?_
  refine Ret_bind (rings_Valid_ok hK x2) fun e2 he2=>?_
  have e20:e2=0:=he2.2.2 x3 fun⟨i,i0,i1,w1,w2⟩=>w2 (by
   show(kindL s'.1.length (rkF q)).getD i.toNat 0=_
   change i<s'.1.length at i1
   rw[kindL_getD (by omega),show((i.toNat:Nat):Int)=i by omega])
  refine Ret_dec (fun g=>absurd e20 g) fun _=>?_
  refine Ret_dec (fun g=>absurd rfl g) fun _=>Ret_dec (fun g=>absurd rfl g) fun _=>?_
  refine cmp_loop rfl (by omega) (fun g=>absurd rfl g) fun _=>?_
  have lk:=kindL_len (n:=s'.1.length) (f:=rkF q)
  have hkl:=h.kl
  refine Ret_dec (fun g=>absurd (by simp only[lk];omega) g) fun _=>Ret_dec (fun g=>absurd rfl g) fun _=>?_
  rw[rings_Difference_ok h,Option.bind_some]
  have tt:=ring_turns h.ends (RkF_of x2) x3
  have hbn:=kind_sum (n:=s'.1.length) (f:=rkF q) s'.1.length
  refine Ret_loop (Inv:=fun x:Int×Int=>0≤x.2∧x.2≤s'.1.length∧x.1=sumW (valR s'.1.length (rkF q)) 0 x.2.toNat) (m:=fun x=>((s'.1.length:Int)-x.2).toNat) ?_ _ _ ⟨by simp,by simp,rfl⟩ (by simp only[fuel];omega)
  rintro ⟨z,i⟩ rec ⟨i1,i2,i3⟩ ih
  simp only at i1 i2 i3 ⊢
  rw[lk]
  refine Ret_dec (fun hlt=>?_) fun hge=>?_
  ·have hb:=kind_sum (n:=s'.1.length) (f:=rkF q) i.toNat
   have hk:=kindL_getD (n:=s'.1.length) (f:=rkF q) (i:=i.toNat) (by omega)
   rw[show((i.toNat:Nat):Int)=i by omega] at hk
   have hst:=valR_step (n:=s'.1.length) (f:=rkF q) i1
   have kb:=kindR_bd (n:=s'.1.length) (f:=rkF q) (i:=i)
   rw[hk]
   refine Ret_chk (inb_t (by omega) (by omega)) (Ret_dec (fun g=>by omega) fun g=>?_)
   refine Ret_chk (i64b_t (by omega) (by omega)) (Ret_chk (inb_t (by omega) (by omega)) (Ret_chk (i64b_t (by omega) (by omega)) (Ret_chk (i64b_t (by omega) (by omega)) (Ret_chk (i64b_t (by omega) (by omega)) (Ret_chk (i64b_t (by omega) (by omega)) (ih _ ⟨by simp only;omega,by simp only;omega,?_⟩ (by simp only;omega)))))))
   simp only
   rw[hst,i3];omega
  ·refine Ret_chk (i64b_t (by omega) (by omega)) ?_
   have zz:z=sumW (valR s'.1.length (rkF q)) 0 s'.1.length:=by rw[i3,show i.toNat=s'.1.length by omega]
   rw[←zz] at tt ⊢
   rw[show rings_Open fuel ((s'.1,kindL s'.1.length (rkF q)),((s'.1.length:Nat):Int)-1)=_ from rings_Open_ok hK,Option.bind_some,if_pos (by simp only;omega)]
   have e0:sc s'.1.length (((s'.1.length:Nat):Int)-1)=0:=by unfold sc;rw[if_neg (by omega)]
   have ck:=opened_ok h x2 x3
   dsimp only
   rw[e0,Int.toNat_zero,rotL_zero,rotL_zero]
   rw[ck,Option.bind_some]
   refine Ret_dec (fun _=>?_) fun g=>absurd (by first | trivial | rfl) g
   refine Ret_dec (fun _=>?_) fun g=>absurd (by first | trivial | rfl) g
   refine Ret_dec (fun _=>?_) fun g=>Ret_dec (fun _=>?_) fun g2=>?_
   ·refine Ret_dec (fun _=>?_) fun g=>absurd (by first | trivial | rfl) g
    exact Ret_dec (fun _=>fin) fun g=>absurd (by first | trivial | rfl) g
   ·refine Ret_dec (fun _=>?_) fun g=>absurd (by first | trivial | rfl) g
    exact Ret_dec (fun _=>fin) fun g=>absurd (by first | trivial | rfl) g
   ·rcases tt with t | t
    ·exact absurd t g
    ·exact absurd t g2
 ·refine Ret_dec (fun g=>?_) fun g=>hj _ ⟨rfl,hp,fun c=>g (he.1 c)⟩
  obtain⟨W,hW⟩:=ways_ex h h8
  rw[show rings_First fuel (s.1,s.2)=_ from rings_First_ok h h8 hW,Option.bind_some]
  by_cases eW:W=[]
  ·rw[if_pos eW]
   exact Ret_dec (fun _=>fin) fun g=>absurd (by decide) g
  ·rw[if_neg eW]
   have hm:W.getD 0 []∈W:=by
    cases W with
    | nil=>exact absurd rfl eW
    | cons a t=>exact List.mem_cons_self
   have wv:=((hW.mem _).1 hm).vp
   exact Ret_dec (fun g=>absurd rfl g) fun _=>hj _ ⟨rfl,wv.ord,wv.nc⟩
end X
end Go.Vm
