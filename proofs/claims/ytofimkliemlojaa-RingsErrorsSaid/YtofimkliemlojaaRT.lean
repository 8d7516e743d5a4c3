/-
  A closed line that does not cross itself turns once around: its half turns to the one side and to the other differ by two.
  Rings: in a pile in which nothing crosses mountains and valleys differ by two.
  Rings: Turn, Open, Over; rings that are turned or turned over have as many ways.
  Rings: the law RingsTurn.
  Rings: Kinds.
  Rings: the law RingsErrors.
  Rings: the law RingsErrors, put together.
-/
import Derived.Test.YtofimkliemlojaaRC
set_option linter.unusedSimpArgs false
set_option linter.unusedVariables false
set_option linter.unusedSectionVars false
set_option linter.unnecessarySimpa false
namespace Go.Vm
namespace X
def sgR (r:Nat→Int) (a b:Nat):Int:=if r a<r b then 1 else -1
def dRi (P:Nat→Int) (i j:Nat):Int:=if P i<P j then 1 else 0
structure Curve (n:Nat) (P r:Nat→Int):Prop where
 two:2<n
 even:n%2=0
 close:P n=P 0
 ext:∀j,0<j→j<n→P 0<P j
 up:∀i,i<n→i%2=0→P i<P (i+1)
 down:∀i,i<n→i%2=1→P (i+1)<P i
 inj:∀i j,i<n→j<n→P i=P j→i=j
 rinj:∀i j,0<i→i≤n→0<j→j≤n→r i=r j→i=j
 nc:∀i j,i<n→0<j→j<n→j≠i→j≠i+1→(P i<P j∧P j<P (i+1)∨P (i+1)<P j∧P j<P i)→(r j<r (i+1)↔r (j+1)<r (i+1))
def hW (P r:Nat→Int) (i j:Nat):Int:=(dRi P i (j+1)-dRi P i j)*sgR r (i+1) (j+1)
def vW (P r:Nat→Int) (i j:Nat):Int:=(dRi P (i+1) j-dRi P i j)*sgR r (i+1) j
def tW (r:Nat→Int) (k:Nat):Int:=if k%2=0 then sgR r k (k+1) else-sgR r k (k+1)
def sumW (f:Nat→Int) (a:Nat):Nat→Int
 | 0=>0
 | k+1=>sumW f a k+f (a+k)
theorem sq_plain {d00 d01 d10 d11 s s1 s2:Int} (h1:d10≠d00→s1=s) (h2:d11≠d10→s2=s):(d01-d00)*s+ (d11-d01)*s=(d10-d00)*s1+ (d11-d10)*s2:=by
 have e1:(d10-d00)*s1=(d10-d00)*s:=by
  by_cases h:d10=d00
  ·rw[h,Int.sub_self,Int.zero_mul,Int.zero_mul]
  ·rw[h1 h]
 have e2:(d11-d10)*s2=(d11-d10)*s:=by
  by_cases h:d11=d10
  ·rw[h,Int.sub_self,Int.zero_mul,Int.zero_mul]
  ·rw[h2 h]
 rw[e1,e2,←Int.add_mul,←Int.add_mul]
 congr 1
 omega
section
variable {n:Nat} {P r:Nat→Int} (h:Curve n P r)
include h
omit h in
theorem apartC {i j k:Nat} (e:dRi P i k≠dRi P j k):P i<P k∧P k≤P j∨P j<P k∧P k≤P i:=by
 unfold dRi at e
 by_cases h1:P i<P k<;>by_cases h2:P j<P k<;>simp[h1,h2] at e<;>omega
theorem Curve.side {i k:Nat} (hi:i<n) (hk:0<k) (hkn:k<n) (h1:k≠i) (h2:k≠i+1) (e:P i<P k∧P k≤P (i+1)∨P (i+1)<P k∧P k≤P i∨P i≤P k∧P k<P (i+1)∨P (i+1)≤P k∧P k<P i):r k<r (i+1)↔r (k+1)<r (i+1):=by
 have n1:P k≠P i:=fun e=>h1 (h.inj _ _ hkn hi e)
 have n2:P k≠P (i+1):=fun e=>by
  by_cases he:i+1<n
  ·exact h2 (h.inj _ _ hkn he e)
  ·rw[show i+1=n by omega,h.close] at e
   have:=h.ext k hk hkn
   omega
 exact h.nc i k hi hk hkn h1 h2 (by omega)
theorem Curve.sq {i j:Nat} (hij:i+2≤j) (hj:j<n):hW P r i j+vW P r i (j+1)=vW P r i j+hW P r (i+1) j:=by
 unfold hW vW
 refine sq_plain (fun e=>?_) fun e=>?_
 ·have a:=apartC (P:=P) (i:=i) (j:=i+1) (k:=j) (fun c=>e c.symm)
  have b:=h.side (i:=i) (k:=j) (by omega) (by omega) hj (by omega) (by omega) (by omega)
  have r1:r j≠r (i+1):=fun c=>absurd (h.rinj _ _ (by omega) (by omega) (by omega) (by omega) c) (by omega)
  have r2:r (j+1)≠r (i+1):=fun c=>absurd (h.rinj _ _ (by omega) (by omega) (by omega) (by omega) c) (by omega)
  unfold sgR
  by_cases c:r (i+1)<r j
  ·rw[if_pos c,if_pos (by omega)]
  ·rw[if_neg c,if_neg (by omega)]
 ·have b:=h.side (i:=j) (k:=i+1) (by omega) (by omega) (by omega) (by omega) (by omega) (by
   unfold dRi at e
   by_cases h1:P (i+1)<P (j+1)<;>by_cases h2:P (i+1)<P j<;>simp[h1,h2] at e<;>omega)
  unfold sgR
  by_cases c:r (i+1)<r (j+1)
  ·rw[if_pos c,if_pos (by omega)]
  ·rw[if_neg c,if_neg (by omega)]
theorem Curve.tri {i:Nat} (hi:i+2≤n):hW P r i (i+1)+vW P r i (i+2)=tW r (i+1):=by
 unfold hW vW tW
 rw[←Int.add_mul]
 have d1:dRi P i (i+1)=if i%2=0 then 1 else 0:=by
  unfold dRi
  by_cases e:i%2=0
  ·rw[if_pos e,if_pos (h.up i (by omega) e)]
  ·rw[if_neg e,if_neg (by have:=h.down i (by omega) (by omega);omega)]
 have d2:dRi P (i+1) (i+2)=if i%2=0 then 0 else 1:=by
  unfold dRi
  by_cases e:i%2=0
  ·rw[if_pos e,if_neg (by have:P (i+2)<P (i+1):=h.down (i+1) (by omega) (by omega);omega)]
  ·rw[if_neg e,if_pos (show P (i+1)<P (i+2) from h.up (i+1) (by omega) (by omega))]
 rw[show i+1+1=i+2 from rfl,show dRi P i (i+2)-dRi P i (i+1)+ (dRi P (i+1) (i+2)-dRi P i (i+2))=dRi P (i+1) (i+2)-dRi P i (i+1) by omega,d1,d2]
 by_cases e:i%2=0
 ·rw[if_pos e,if_pos e,if_neg (by omega)];omega
 ·rw[if_neg e,if_neg e,if_pos (by omega)];omega
theorem Curve.row {i:Nat}:∀k,i+2+k≤n→(i≠0∨i+2+k<n)→sumW (hW P r i) (i+1) (k+1)+vW P r i (i+2+k)=tW r (i+1)+sumW (hW P r (i+1)) (i+2) k
 | 0,h1,_=>by
   rw[←h.tri (by omega)]
   simp[sumW]
 | k+1,h1,h2=>by
   have ih:=Curve.row (i:=i) k (by omega) (by omega)
   have:=h.sq (i:=i) (j:=i+2+k) (by omega) (by omega)
   have e1:sumW (hW P r i) (i+1) (k+1+1)=sumW (hW P r i) (i+1) (k+1)+hW P r i (i+1+ (k+1)):=rfl
   have e2:sumW (hW P r (i+1)) (i+2) (k+1)=sumW (hW P r (i+1)) (i+2) k+hW P r (i+1) (i+2+k):=rfl
   rw[show i+1+ (k+1)=i+2+k by omega] at e1
   rw[show i+2+ (k+1)=i+2+k+1 by omega]
   omega
end
end X
end Go.Vm
namespace Go.Vm
namespace X
open W
def nx (n i:Nat):Nat:=if i+1<n then i+1 else 0
structure RkF (n:Nat) (f:Int→Int):Prop where
 lo:∀x:Nat,x<n→0≤f x
 hi:∀x:Nat,x<n→f x<n
 inj:∀x y:Nat,x<n→y<n→f x=f y→x=y
section
variable {E:List Int} {n:Nat} {f:Int→Int} (h:REnds E n) (hf:RkF n f)
include h hf
end
end X
end Go.Vm
namespace Go.Vm
namespace X
open W Go.Proofs.St
theorem slices_Concat_int_ok {A B:List Int} (hA:A.length≤1000) (hB:B.length≤1000):slices_Concat_int fuel [A,B]=some (A++B):=by
 apply Ret.eq
 unfold slices_Concat_int
 have l2:(([A,B]:List (List Int)).length:Int)=2:=rfl
 refine Ret_loop (Inv:=fun x:Int×Int=>0≤x.2∧x.2≤2∧x.1=if x.2=0 then(0:Int) else if x.2=1 then(A.length:Int) else A.length+B.length) (m:=fun x=>(2-x.2).toNat) ?_ _ _ ⟨by simp,by simp,by simp⟩ (by simp only[fuel];omega)
 rintro ⟨z,i⟩ rec ⟨i1,i2,i3⟩ ih
 simp only at i1 i2 i3 ⊢
 refine Ret_dec (fun hlt=>?_) fun hge=>?_
 ·rcases(by omega:i=0∨i=1) with rfl | rfl
  ·rw[if_pos rfl] at i3
   refine Ret_chk (inb_t (by omega) (by omega)) ?_
   show Ret (chk (i64b (z+ ((A.length:Nat):Int))) _) _
   refine Ret_chk (i64b_t (by omega) (by omega)) (Ret_dec (fun g=>?_) fun g=>Ret_chk (by rfl) (ih _ ⟨by simp,by simp,?_⟩ (by simp)))
   ·change z+ ((A.length:Nat):Int)<0 at g
    omega
   ·show z+ ((A.length:Nat):Int)=if(1:Int)=0 then 0 else if(1:Int)=1 then(A.length:Int) else _
    rw[if_neg (by omega),if_pos rfl];omega
  ·rw[if_neg (by omega),if_pos rfl] at i3
   refine Ret_chk (inb_t (by omega) (by omega)) ?_
   show Ret (chk (i64b (z+ ((B.length:Nat):Int))) _) _
   refine Ret_chk (i64b_t (by omega) (by omega)) (Ret_dec (fun g=>?_) fun g=>Ret_chk (by rfl) (ih _ ⟨by simp,by simp,?_⟩ (by simp)))
   ·change z+ ((B.length:Nat):Int)<0 at g
    omega
   ·show z+ ((B.length:Nat):Int)=if(2:Int)=0 then 0 else if(2:Int)=1 then(A.length:Int) else _
    rw[if_neg (by omega),if_neg (by omega)];omega
 ·rw[show i=2 by omega,if_neg (by omega),if_neg (by omega)] at i3
  unfold slices_Grow_int
  rw[inb_t (by simp only;omega) (by simp only;omega),cond_true,Option.bind_some]
  refine Ret_loop (Inv:=fun x:List Int×Int=>0≤x.2∧x.2≤2∧x.1=if x.2=0 then [] else if x.2=1 then A else A++B) (m:=fun x=>(2-x.2).toNat) ?_ _ _ ⟨by simp,by simp,by simp⟩ (by simp only[fuel];omega)
  rintro ⟨L,k⟩ rec2 ⟨j1,j2,j3⟩ ih2
  simp only at j1 j2 j3 ⊢
  refine Ret_dec (fun hlt2=>?_) fun hge2=>Ret_some (by rw[j3,if_neg (by omega),if_neg (by omega)])
  rcases(by omega:k=0∨k=1) with rfl | rfl
  ·rw[if_pos rfl] at j3
   subst j3
   refine Ret_chk (inb_t (by omega) (by omega)) ?_
   show Ret (chk (lenOk (([]:List Int).length+A.length)) (chk _ (rec2 ([]++A,_)))) _
   exact Ret_chk (lenOk_t (by simp;omega)) (Ret_chk (by rfl) (ih2 _ ⟨by simp,by simp,by simp⟩ (by simp)))
  ·rw[if_neg (by omega),if_pos rfl] at j3
   subst j3
   refine Ret_chk (inb_t (by omega) (by omega)) ?_
   show Ret (chk (lenOk (L.length+B.length)) (chk _ (rec2 (L++B,_)))) _
   exact Ret_chk (lenOk_t (by omega)) (Ret_chk (by rfl) (ih2 _ ⟨by simp,by simp,by simp⟩ (by simp)))
theorem rings_begun_int_ok {L:List Int} {k:Int} (hL:L.length≤1000) (h0:0≤k) (h1:k≤L.length):rings_begun_int fuel (L,k)=some (L.drop k.toNat++L.take k.toNat):=by
 unfold rings_begun_int
 simp only
 have e1:((L.drop k.toNat).take (L.length-k.toNat))=L.drop k.toNat:=List.take_of_length_le (by simp)
 rw[chk_t (by simp[bnb];omega),chk_t (by simp[bnb];omega),e1,List.drop_zero,slices_Concat_int_ok (by simp;omega) (by simp;omega),Option.bind_some]
 generalize L.drop k.toNat++L.take k.toNat=M
 rw[chk_t (by simp[bnb]),List.take_of_length_le (Nat.le_refl _),chk_t (by simp[capIs])]
theorem slices_Concat_api_Kind_ok {A B:List Int} (hA:A.length≤1000) (hB:B.length≤1000):slices_Concat_api_Kind fuel [A,B]=some (A++B):=by
 apply Ret.eq
 unfold slices_Concat_api_Kind
 have l2:(([A,B]:List (List Int)).length:Int)=2:=rfl
 refine Ret_loop (Inv:=fun x:Int×Int=>0≤x.2∧x.2≤2∧x.1=if x.2=0 then(0:Int) else if x.2=1 then(A.length:Int) else A.length+B.length) (m:=fun x=>(2-x.2).toNat) ?_ _ _ ⟨by simp,by simp,by simp⟩ (by simp only[fuel];omega)
 rintro ⟨z,i⟩ rec ⟨i1,i2,i3⟩ ih
 simp only at i1 i2 i3 ⊢
 refine Ret_dec (fun hlt=>?_) fun hge=>?_
 ·rcases(by omega:i=0∨i=1) with rfl | rfl
  ·rw[if_pos rfl] at i3
   refine Ret_chk (inb_t (by omega) (by omega)) ?_
   show Ret (chk (i64b (z+ ((A.length:Nat):Int))) _) _
   refine Ret_chk (i64b_t (by omega) (by omega)) (Ret_dec (fun g=>?_) fun g=>Ret_chk (by rfl) (ih _ ⟨by simp,by simp,?_⟩ (by simp)))
   ·change z+ ((A.length:Nat):Int)<0 at g
    omega
   ·show z+ ((A.length:Nat):Int)=if(1:Int)=0 then 0 else if(1:Int)=1 then(A.length:Int) else _
    rw[if_neg (by omega),if_pos rfl];omega
  ·rw[if_neg (by omega),if_pos rfl] at i3
   refine Ret_chk (inb_t (by omega) (by omega)) ?_
   show Ret (chk (i64b (z+ ((B.length:Nat):Int))) _) _
   refine Ret_chk (i64b_t (by omega) (by omega)) (Ret_dec (fun g=>?_) fun g=>Ret_chk (by rfl) (ih _ ⟨by simp,by simp,?_⟩ (by simp)))
   ·change z+ ((B.length:Nat):Int)<0 at g
    omega
   ·show z+ ((B.length:Nat):Int)=if(2:Int)=0 then 0 else if(2:Int)=1 then(A.length:Int) else _
    rw[if_neg (by omega),if_neg (by omega)];omega
 ·rw[show i=2 by omega,if_neg (by omega),if_neg (by omega)] at i3
  unfold slices_Grow_api_Kind
  rw[inb_t (by simp only;omega) (by simp only;omega),cond_true,Option.bind_some]
  refine Ret_loop (Inv:=fun x:List Int×Int=>0≤x.2∧x.2≤2∧x.1=if x.2=0 then [] else if x.2=1 then A else A++B) (m:=fun x=>(2-x.2).toNat) ?_ _ _ ⟨by simp,by simp,by simp⟩ (by simp only[fuel];omega)
  rintro ⟨L,k⟩ rec2 ⟨j1,j2,j3⟩ ih2
  simp only at j1 j2 j3 ⊢
  refine Ret_dec (fun hlt2=>?_) fun hge2=>Ret_some (by rw[j3,if_neg (by omega),if_neg (by omega)])
  rcases(by omega:k=0∨k=1) with rfl | rfl
  ·rw[if_pos rfl] at j3
   subst j3
   refine Ret_chk (inb_t (by omega) (by omega)) ?_
   show Ret (chk (lenOk (([]:List Int).length+A.length)) (chk _ (rec2 ([]++A,_)))) _
   exact Ret_chk (lenOk_t (by simp;omega)) (Ret_chk (by rfl) (ih2 _ ⟨by simp,by simp,by simp⟩ (by simp)))
  ·rw[if_neg (by omega),if_pos rfl] at j3
   subst j3
   refine Ret_chk (inb_t (by omega) (by omega)) ?_
   show Ret (chk (lenOk (L.length+B.length)) (chk _ (rec2 (L++B,_)))) _
   exact Ret_chk (lenOk_t (by omega)) (Ret_chk (by rfl) (ih2 _ ⟨by simp,by simp,by simp⟩ (by simp)))
theorem rings_begun_api_Kind_ok {L:List Int} {k:Int} (hL:L.length≤1000) (h0:0≤k) (h1:k≤L.length):rings_begun_api_Kind fuel (L,k)=some (L.drop k.toNat++L.take k.toNat):=by
 unfold rings_begun_api_Kind
 simp only
 have e1:((L.drop k.toNat).take (L.length-k.toNat))=L.drop k.toNat:=List.take_of_length_le (by simp)
 rw[chk_t (by simp[bnb];omega),chk_t (by simp[bnb];omega),e1,List.drop_zero,slices_Concat_api_Kind_ok (by simp;omega) (by simp;omega),Option.bind_some]
 generalize L.drop k.toNat++L.take k.toNat=M
 rw[chk_t (by simp[bnb]),List.take_of_length_le (Nat.le_refl _),chk_t (by simp[capIs])]
def rotL (L:List Int) (k:Nat):List Int:=L.drop k++L.take k
theorem rotL_len {L:List Int} {k:Nat} (h:k≤L.length):(rotL L k).length=L.length:=by simp[rotL];omega
def turnR (s:List Int×List Int) (k:Nat):List Int×List Int:=(rotL s.1 k,rotL s.2 k)
structure RIso (E E':List Int) (n:Nat) (f f' τ:Int→Int) (c:Int):Prop where
 rng:∀i:Int,0≤i→i<n→0≤τ i∧τ i<n
 inj:∀i j:Int,0≤i→i<n→0≤j→j<n→τ i=τ j→i=j
 sc:∀i:Int,0≤i→i<n→sc n (τ i)=τ (sc n i)
 a:∀i:Int,0≤i→i<n→E'.getD i.toNat 0=E.getD (τ i).toNat 0-c
 b:∀i:Int,0≤i→i<n→E'.getD (i.toNat+1) 0=E.getD ((τ i).toNat+1) 0-c
 f:∀i:Int,0≤i→i<n→f' i=f (τ i)
section
variable {E E':List Int} {n:Nat} {f f' τ:Int→Int} {c:Int} (h:RIso E E' n f f' τ c)
include h
theorem RIso.bet {i x:Int} (i0:0≤i) (i1:i<n) (x0:0≤x) (x1:x<n):BetR n f' i x↔BetR n f (τ i) (τ x):=by
 have s0:0≤X.sc n i∧X.sc n i<n:=by unfold X.sc;split<;>omega
 unfold BetR
 rw[h.f i i0 i1,h.f x x0 x1,h.f _ s0.1 s0.2,h.sc i i0 i1]
theorem RIso.cross (hc:CrossR E' n f'):CrossR E n f:=by
 obtain⟨i,i0,i1,hc⟩:=hc
 have ri:=h.rng i i0 i1
 have ai:=h.a i i0 i1;have bi:=h.b i i0 i1
 refine⟨τ i,ri.1,ri.2,?_⟩
 rcases hc with⟨j,j0,j1,e1,e2,e3⟩ | ⟨j,j0,j1,e1,e2,e3,e5⟩
 ·have rj:=h.rng j j0 j1
  have aj:=h.a j j0 j1;have bj:=h.b j j0 j1
  refine .inl ⟨τ j,rj.1,rj.2,?_,?_,(h.bet i0 i1 j0 j1).1 e3⟩
  ·unfold frm at *;omega
  ·unfold too at *;omega
 ·have rj:=h.rng j j0 j1
  have aj:=h.a j j0 j1;have bj:=h.b j j0 j1
  have s0:0≤X.sc n j∧X.sc n j<n:=by unfold X.sc;split<;>omega
  refine .inr ⟨τ j,rj.1,rj.2,fun e=>e1 (h.inj _ _ j0 j1 i0 i1 e),by omega,by omega,?_⟩
  rw[←h.bet i0 i1 j0 j1,h.sc j j0 j1,←h.bet i0 i1 s0.1 s0.2]
  exact e5
theorem RIso.wrong {K K':List Int} (hK:∀i:Int,0≤i→i<n→K'.getD i.toNat 0=K.getD (τ i).toNat 0∧(τ i)%2=i%2) (hw:WrongR K' n f'):WrongR K n f:=by
 obtain⟨i,i0,i1,e1,e2⟩:=hw
 have ri:=h.rng i i0 i1
 have hk:=hK i i0 i1
 have s0:0≤X.sc n i∧X.sc n i<n:=by unfold X.sc;split<;>omega
 refine⟨τ i,ri.1,ri.2,by rw[←hk.1];exact e1,?_⟩
 rw[←hk.1]
 refine fun e=>e2 (e.trans ?_)
 unfold kindR
 rw[hk.2,h.sc i i0 i1,h.f i i0 i1,h.f _ s0.1 s0.2]
theorem RIso.ovl {i j:Int} (i0:0≤i) (i1:i<n) (j0:0≤j) (j1:j<n):ovl E' i.toNat j.toNat=X.ovl E (τ i).toNat (τ j).toNat:=by
 have ai:=h.a i i0 i1;have bi:=h.b i i0 i1
 have aj:=h.a j j0 j1;have bj:=h.b j j0 j1
 rw[Bool.eq_iff_iff,ovl_t,ovl_t]
 unfold frm too
 omega
end
end X
end Go.Vm
namespace Go.Vm
namespace X
open W Go.Proofs.St
theorem rings_Turn_ok {s:List Int×List Int} (h:RValid s) {by_:Int}:rings_Turn fuel (s,by_)=some (if 0≤by_∧by_<s.1.length∧by_%2=0 then(turnR s by_.toNat,0) else(([],[]),1)):=by
 have hn:=h.le
 have hkl:=h.kl
 apply Ret.eq
 unfold rings_Turn
 rw[show rings_Check fuel (s.1,s.2)=some 0 from rings_Check_ok h,Option.bind_some]
 refine Ret_dec (fun g=>absurd rfl g) fun _=>?_
 refine Ret_dec (fun g=>Ret_some (by rw[if_neg (by simp only at g;omega)])) fun g=>?_
 refine Ret_dec (fun g2=>Ret_some (by rw[if_neg (by simp only at g2;omega)])) fun g2=>?_
 simp only at g g2
 refine Ret_chk (by simp;omega) (Ret_dec (fun g3=>Ret_some (by rw[if_neg (by simp only at g3;omega)])) fun g3=>?_)
 simp only at g3 ⊢
 rw[rings_begun_int_ok (by omega) (by omega) (by omega),Option.bind_some,rings_begun_api_Kind_ok (by omega) (by omega) (by omega),Option.bind_some,if_pos (by omega)]
 exact Ret_chk (by simp[capIs]) (Ret_some rfl)
theorem rings_Open_ok {s:List Int×List Int} (h:RValid s) {by_:Int}:rings_Open fuel (s,by_)=some (if 0≤by_∧by_<s.1.length then((rotL s.1 (sc s.1.length by_).toNat,(rotL s.2 (sc s.1.length by_).toNat).take (s.1.length-1)),0) else(([],[]),1)):=by
 have hn:=h.le
 have h2:=h.two
 have hkl:=h.kl
 apply Ret.eq
 unfold rings_Open
 rw[show rings_Check fuel (s.1,s.2)=some 0 from rings_Check_ok h,Option.bind_some]
 refine Ret_dec (fun g=>absurd rfl g) fun _=>?_
 refine Ret_dec (fun g=>Ret_some (by rw[if_neg (by simp only at g;omega)])) fun g=>?_
 refine Ret_dec (fun g2=>Ret_some (by rw[if_neg (by simp only at g2;omega)])) fun g2=>?_
 simp only at g g2 ⊢
 obtain⟨s0,s1,_,_⟩:=h.ends.sc_lt (i:=by_) (by omega) (by omega)
 rw[show rings_of fuel (s.1,s.2)=_ from rings_of_ok h,Option.bind_some,show rings_folded_behind fuel (((s.1,s.2),endR s.1),by_)=some (sc s.1.length by_) from rings_behind_ok hn (by omega) (by omega),Option.bind_some,
  rings_begun_int_ok (by omega) s0 (by omega),Option.bind_some,rings_begun_api_Kind_ok (by omega) s0 (by omega),Option.bind_some,if_pos (by omega)]
 have l2:(s.2.drop (sc s.1.length by_).toNat++s.2.take (sc s.1.length by_).toNat).length=s.2.length:=rotL_len (L:=s.2) (by omega)
 have e1:((s.2.length:Nat):Int)-1=((s.1.length-1:Nat):Int):=by omega
 rw[e1]
 refine Ret_chk (i64b_t (by omega) (by omega)) (Ret_chk (by rw[l2];simp[bnb];omega) (Ret_chk (by simp[bnb]) ?_))
 rw[Int.toNat_natCast]
 refine Ret_chk ?_ (Ret_some rfl)
 simp only[capIs,List.length_take,l2]
 simp
 omega
end X
end Go.Vm
namespace Go.Vm
namespace X
open W Go.Proofs.St
def kindL (n:Nat) (f:Int→Int):List Int:=(List.range n).map fun(i:Nat)=>kindR n f i
theorem kindL_len {n:Nat} {f:Int→Int}:(kindL n f).length=n:=by simp[kindL]
theorem kindL_getD {n:Nat} {f:Int→Int} {i:Nat} (h:i<n):(kindL n f).getD i 0=kindR n f i:=by
 simp[kindL,List.getD,List.getElem?_range h]
theorem rings_Kinds_ok {s:List Int×List Int} (h:RValid s) {p:List Int} (hp:Ord s.1.length p) (hc:¬CrossR (endR s.1) s.1.length (rkF p)):
  rings_Kinds fuel (s,p)=some ((s.1,kindL s.1.length (rkF p)),0):=by
 have hn:=h.le
 have hl:=hp.len
 have hkl:=h.kl
 apply Ret.eq
 unfold rings_Kinds
 refine Ret_bind (rings_Valid_ok h hp) fun e he=>?_
 have he2:e=0∨e=13:=by
  by_cases w:WrongR s.2 s.1.length (rkF p)
  ·exact .inr (he.2.1 hc w)
  ·exact .inl (he.2.2 hc w)
 have body:Ret ((rings_of fuel (s.1,s.2)).bind fun r2=>(rings_rank fuel p).bind fun r3=>(slices_Clone_int fuel s.1).bind fun r4=>chk (bnb 0 ((r4.length:Nat):Int) r4.length&&decide (((r4.length:Nat):Int)≤((r4.length:Nat):Int))&&decide (((r4.length:Nat):Int)≤((r4.length:Nat):Int))) (chk (decide (0≤((s.2.length:Nat):Int))&&decide (((s.2.length:Nat):Int)≤((s.2.length:Nat):Int))&&decide (((s.2.length:Nat):Int)≤1000000)) (loopF (fun rec5 (x5:(Int×((List Int)×Option Nat)))=>bif(decide (x5.1< (((List.replicate (α:=Int) s.2.length 0).length:Nat):Int))) then((rings_folded_kind fuel (((r2.1.1,r2.1.2),r2.2),(r3,x5.1))).bind fun r6=>chk (inb x5.1 x5.2.1.length) (chk (i64b (x5.1+1)) (rec5 ((x5.1+1),((x5.2.1.set x5.1.toNat r6),x5.2.2))))) else(chk (((Nat.beq 0 0)&&(capIs (some r4.length) (r4.take r4.length).length))&&(capIs x5.2.2 x5.2.1.length)) (some (((r4.take r4.length),x5.2.1),(0:Int))))) fuel (0,((List.replicate (α:=Int) s.2.length 0),(some s.2.length)))))) (fun x=>x=((s.1,kindL s.1.length (rkF p)),0)):=by
  rw[show rings_of fuel (s.1,s.2)=some (s,endR s.1) from rings_of_ok h,Option.bind_some]
  refine Ret_bind (rings_rank_ok hp.in hp.nodup hn (by omega)) fun r hr=>?_
  have hfg:=hr.rk.eqF hp
  unfold slices_Clone_int
  rw[chk_t (lenOk_t (by omega)),Option.bind_some,List.nil_append]
  refine Ret_chk (by simp[bnb]) (Ret_chk (by simp;omega) ?_)
  refine Ret_loop (Inv:=fun x:Int×(List Int×Option Nat)=>0≤x.1∧x.1≤s.1.length∧x.2.1.length=s.1.length∧x.2.2=some s.2.length∧∀k:Nat,(k:Int)<x.1→x.2.1.getD k 0=kindR s.1.length (rkF p) k) (m:=fun x=>((s.1.length:Int)-x.1).toNat) ?_ _ _ ⟨by simp,by simp,by simp;omega,rfl,fun k hk=>by simp only at hk;omega⟩ (by simp only[fuel];omega)
  rintro ⟨i,K,cp⟩ rec ⟨i1,i2,i3,i4,i5⟩ ih
  simp only[List.length_replicate] at i1 i2 i3 i4 i5 ⊢
  subst i4
  refine Ret_dec (fun hlt=>?_) fun hge=>?_
  ·rw[show rings_folded_kind fuel (((s.1,s.2),endR s.1),(r,i))=some (kindR s.1.length (fun x=>r.getD x.toNat 0) i) from rings_kind_ok h i1 (by omega),Option.bind_some,kindR_congr hfg i1 (by omega)]
   refine Ret_chk (inb_t (by omega) (by omega)) (Ret_chk (i64b_t (by omega) (by omega)) (ih _ ⟨by simp only;omega,by simp only;omega,by simp only[List.length_set];exact i3,rfl,fun k hk=>?_⟩ (by simp only;omega)))
   simp only at hk ⊢
   rw[getD_set (by omega)]
   split
   ·next e=>rw[e,show((i.toNat:Nat):Int)=i by omega]
   ·exact i5 k (by omega)
  ·have eK:K=kindL s.1.length (rkF p):=ext_getD (by rw[kindL_len];exact i3) fun k hk=>by
    rw[kindL_getD (by omega)]
    exact i5 k (by omega)
   refine Ret_chk ?_ (Ret_some ?_)
   ·rw[List.take_of_length_le (Nat.le_refl _)]
    simp[capIs];omega
   ·rw[List.take_of_length_le (Nat.le_refl _),eK]
 refine Ret_dec (fun g=>Ret_dec (fun g2=>by omega) fun g2=>body) fun g=>body
end X
end Go.Vm
namespace Go.Vm
namespace X
open W Go.Proofs.St
def BadS (s:List Int×List Int):Prop:=(∃x∈s.1,¬(1≤x∧x≤64))∨∃x∈s.2,¬(1≤x∧x≤3)
open Classical in
noncomputable def ckR (s:List Int×List Int):Int:=
 if 32<s.1.length then 3 else if s.2.length≠s.1.length then 5 else if s.1.length%2=1∨s.1.length=0 then 1 else if BadS s then 1 else if eR s.1 s.1.length≠0 then 14 else 0
theorem ckR_val {s:List Int×List Int}:ckR s=0∨ckR s=1∨ckR s=3∨ckR s=5∨ckR s=14:=by
 unfold ckR
 repeat' split
 all_goals simp
theorem ckR_zero {s:List Int×List Int}:ckR s=0↔RValid s:=by
 unfold ckR
 constructor
 ·intro h
  by_cases c1:32<s.1.length
  ·rw[if_pos c1] at h;cases h
  rw[if_neg c1] at h
  by_cases c2:s.2.length≠s.1.length
  ·rw[if_pos c2] at h;cases h
  rw[if_neg c2] at h
  by_cases c3:s.1.length%2=1∨s.1.length=0
  ·rw[if_pos c3] at h;cases h
  rw[if_neg c3] at h
  by_cases c4:BadS s
  ·rw[if_pos c4] at h;cases h
  rw[if_neg c4] at h
  by_cases c5:eR s.1 s.1.length≠0
  ·rw[if_pos c5] at h;cases h
  refine⟨by omega,by omega,by omega,by omega,fun x hx=>?_,fun x hx=>?_,Classical.not_not.1 c5⟩
  ·exact Classical.byContradiction fun g=>c4 (.inl ⟨x,hx,g⟩)
  ·exact Classical.byContradiction fun g=>c4 (.inr ⟨x,hx,g⟩)
 ·rintro ⟨h1,h2,h3,h4,h5,h6,h7⟩
  rw[if_neg (by omega),if_neg (by omega),if_neg (by omega),if_neg,if_neg (by omega)]
  rintro (⟨x,hx,g⟩ | ⟨x,hx,g⟩)
  ·exact g (h5 x hx)
  ·exact g (h6 x hx)
theorem eR_bdP {L:List Int}:∀i:Nat,i≤L.length→(∀k:Nat,k<i→1≤L.getD k 0∧L.getD k 0≤64)→ -(64* (i:Int))≤eR L i∧eR L i≤64*i
 | 0,_,_=>by simp[eR]
 | i+1,hi,h=>by
   have ih:=eR_bdP i (by omega) fun k hk=>h k (by omega)
   have hx:=h i (by omega)
   rcases sg i with⟨e,_⟩ | ⟨e,_⟩
   ·rw[eR_even e];omega
   ·rw[eR_odd e];omega
theorem rings_Check_any (s:List Int×List Int):rings_Check fuel s=some (ckR s):=by
 apply Ret.eq
 unfold rings_Check ckR
 refine Ret_dec (fun g=>Ret_some (by rw[if_pos (by omega)])) fun g1=>?_
 rw[if_neg (by omega)]
 refine Ret_dec (fun g=>Ret_some (by rw[if_pos (by omega)])) fun g2=>?_
 rw[if_neg (by omega)]
 refine Ret_dec (fun g=>Ret_some (by rw[if_pos (by omega)])) fun g3=>?_
 refine Ret_chk (by simp) (Ret_dec (fun g=>Ret_some (by rw[if_pos (by omega)])) fun g4=>?_)
 rw[if_neg (by omega)]
 refine Ret_loop (Inv:=fun x:Int×Int=>0≤x.2∧x.2≤s.1.length∧x.1=eR s.1 x.2.toNat∧∀k:Nat,(k:Int)<x.2→(1≤s.1.getD k 0∧s.1.getD k 0≤64)∧(1≤s.2.getD k 0∧s.2.getD k 0≤3)) (m:=fun x=>((s.1.length:Int)-x.2).toNat) ?_ _ _ ⟨by simp,by simp,rfl,fun k hk=>by simp only at hk;omega⟩ (by simp only[fuel];omega)
 rintro ⟨at_,i⟩ rec ⟨i1,i2,i3,i4⟩ ih
 simp only at i1 i2 i3 i4 ⊢
 obtain⟨n,rfl⟩:=Int.eq_ofNat_of_zero_le i1
 simp only[Int.toNat_natCast] at i3 ⊢
 refine Ret_dec (fun hlt=>?_) fun hge=>?_
 ·have m1:=getD_mem (L:=s.1) (i:=n) (by omega)
  have m2:=getD_mem (L:=s.2) (i:=n) (by omega)
  have hin:inb (n:Int) s.1.length=true:=inb_t (by omega) (by omega)
  have hin2:inb (n:Int) s.2.length=true:=inb_t (by omega) (by omega)
  refine Ret_chk hin (Ret_dec (fun g=>Ret_some (by rw[if_pos (.inl ⟨_,m1,by omega⟩)])) fun k1=>Ret_dec (fun g=>Ret_some (by rw[if_pos (.inl ⟨_,m1,by omega⟩)])) fun k2=>Ret_chk hin2 (Ret_dec (fun g=>Ret_some (by rw[if_pos (.inr ⟨_,m2,by omega⟩)])) fun k3=>Ret_chk hin2 (Ret_dec (fun g=>Ret_some (by rw[if_pos (.inr ⟨_,m2,by omega⟩)])) fun k4=>?_)))
  have hb:=eR_bdP (L:=s.1) n (by omega) fun k hk=>(i4 k (by omega)).1
  refine Ret_chk (by rw[Bool.and_eq_true];exact⟨decide_eq_true (by omega),rfl⟩) (Ret_chk (i64b_t (by omega) (by omega)) (Ret_chk (i64b_t (by omega) (by omega)) ?_))
  have hs:at_+s.1.getD n 0* (1-2* ((n:Int)%2))=eR s.1 (n+1):=by rw[i3,eR_step]
  have nxt:∀k:Nat,(k:Int)< (n:Int)+1→(1≤s.1.getD k 0∧s.1.getD k 0≤64)∧(1≤s.2.getD k 0∧s.2.getD k 0≤3):=fun k hk=>by
   by_cases e:k=n
   ·subst e;omega
   ·exact i4 k (by omega)
  have hb2:=eR_bdP (L:=s.1) (n+1) (by omega) fun k hk=>(nxt k (by omega)).1
  refine Ret_chk ?_ (Ret_chk (i64b_t (by omega) (by omega)) (Ret_chk (i64b_t (by omega) (by omega)) ?_))
  ·rcases sg n with⟨_,e⟩ | ⟨_,e⟩
   ·rw[e];exact i64b_t (by omega) (by omega)
   ·rw[e];exact i64b_t (by omega) (by omega)
  exact ih _ ⟨by simp only;omega,by simp only;omega,by simp only;rw[hs,show((n:Int)+1).toNat=n+1 by omega],nxt⟩ (by simp only;omega)
 ·have:n=s.1.length:=by omega
  subst this
  rw[if_neg]
  ·refine Ret_dec (fun g=>Ret_some (by rw[if_pos (by rw[←i3];exact g)])) fun g=>Ret_some (by rw[if_neg (by rw[←i3];exact g)])
  ·rintro (⟨x,hx,g⟩ | ⟨x,hx,g⟩)
   ·obtain⟨k,hk,e⟩:=List.mem_iff_getElem.1 hx
    have:=(i4 k (by omega)).1
    rw[List.getD,List.getElem?_eq_getElem hk,Option.getD_some,e] at this
    exact g this
   ·obtain⟨k,hk,e⟩:=List.mem_iff_getElem.1 hx
    have:=(i4 k (by omega)).2
    rw[List.getD,List.getElem?_eq_getElem hk,Option.getD_some,e] at this
    exact g this
theorem rings_Unit_good {n:Int} (h:2≤n∧n≤32∧n%2=0):∃r,rings_Unit fuel n=some r∧r.2=0∧rings_Check fuel (r.1.1,r.1.2)=some 0∧(r.1.1.length:Int)=n:=by
 rcases(by omega:n=2∨n=4∨n=6∨n=8∨n=10∨n=12∨n=14∨n=16∨n=18∨n=20∨n=22∨n=24∨n=26∨n=28∨n=30∨n=32) with rfl | rfl | rfl | rfl | rfl | rfl | rfl | rfl | rfl | rfl | rfl | rfl | rfl | rfl | rfl | rfl
 ·exact⟨((List.replicate 2 1,List.replicate 2 3),0),by kernel_rfl,rfl,by kernel_rfl,rfl⟩
 ·exact⟨((List.replicate 4 1,List.replicate 4 3),0),by kernel_rfl,rfl,by kernel_rfl,rfl⟩
 ·exact⟨((List.replicate 6 1,List.replicate 6 3),0),by kernel_rfl,rfl,by kernel_rfl,rfl⟩
 ·exact⟨((List.replicate 8 1,List.replicate 8 3),0),by kernel_rfl,rfl,by kernel_rfl,rfl⟩
 ·exact⟨((List.replicate 10 1,List.replicate 10 3),0),by kernel_rfl,rfl,by kernel_rfl,rfl⟩
 ·exact⟨((List.replicate 12 1,List.replicate 12 3),0),by kernel_rfl,rfl,by kernel_rfl,rfl⟩
 ·exact⟨((List.replicate 14 1,List.replicate 14 3),0),by kernel_rfl,rfl,by kernel_rfl,rfl⟩
 ·exact⟨((List.replicate 16 1,List.replicate 16 3),0),by kernel_rfl,rfl,by kernel_rfl,rfl⟩
 ·exact⟨((List.replicate 18 1,List.replicate 18 3),0),by kernel_rfl,rfl,by kernel_rfl,rfl⟩
 ·exact⟨((List.replicate 20 1,List.replicate 20 3),0),by kernel_rfl,rfl,by kernel_rfl,rfl⟩
 ·exact⟨((List.replicate 22 1,List.replicate 22 3),0),by kernel_rfl,rfl,by kernel_rfl,rfl⟩
 ·exact⟨((List.replicate 24 1,List.replicate 24 3),0),by kernel_rfl,rfl,by kernel_rfl,rfl⟩
 ·exact⟨((List.replicate 26 1,List.replicate 26 3),0),by kernel_rfl,rfl,by kernel_rfl,rfl⟩
 ·exact⟨((List.replicate 28 1,List.replicate 28 3),0),by kernel_rfl,rfl,by kernel_rfl,rfl⟩
 ·exact⟨((List.replicate 30 1,List.replicate 30 3),0),by kernel_rfl,rfl,by kernel_rfl,rfl⟩
 ·exact⟨((List.replicate 32 1,List.replicate 32 3),0),by kernel_rfl,rfl,by kernel_rfl,rfl⟩
theorem rings_Unit_bad {n:Int} (h:¬(2≤n∧n≤32∧n%2=0)):rings_Unit fuel n=some (([],[]),1):=by
 apply Ret.eq
 unfold rings_Unit
 refine Ret_dec (fun g=>Ret_some rfl) fun g1=>Ret_dec (fun g=>Ret_some rfl) fun g2=>Ret_chk (by simp;omega) (Ret_dec (fun g=>Ret_some rfl) fun g3=>absurd (by omega) h)
theorem rings_Difference_any {s:List Int×List Int} (h:RValid s):Ret (rings_Difference fuel s) fun r=>r.2=0:=by
 have hn:=h.le
 have hkl:=h.kl
 unfold rings_Difference
 rw[show rings_Check fuel (s.1,s.2)=some 0 from rings_Check_ok h,Option.bind_some]
 refine Ret_dec (fun g=>absurd rfl g) fun _=>?_
 refine Ret_loop (Inv:=fun x:Int×Int=>0≤x.2∧x.2≤s.2.length∧ -x.2≤x.1∧x.1≤x.2) (m:=fun x=>((s.2.length:Int)-x.2).toNat) ?_ _ _ ⟨by simp,by simp,by simp,by simp⟩ (by simp only[fuel];omega)
 rintro ⟨z,i⟩ rec ⟨i1,i2,i3,i4⟩ ih
 simp only at i1 i2 i3 i4 ⊢
 refine Ret_dec (fun hlt=>?_) fun hge=>Ret_some rfl
 refine Ret_chk (inb_t (by omega) (by omega)) (Ret_dec (fun g=>?_) fun g=>Ret_dec (fun g2=>?_) fun g2=>?_)
 ·exact Ret_chk (i64b_t (by omega) (by omega)) (Ret_chk (i64b_t (by omega) (by omega)) (ih _ ⟨by simp only;omega,by simp only;omega,by simp only;omega,by simp only;omega⟩ (by simp only;omega)))
 ·exact Ret_chk (i64b_t (by omega) (by omega)) (Ret_chk (i64b_t (by omega) (by omega)) (ih _ ⟨by simp only;omega,by simp only;omega,by simp only;omega,by simp only;omega⟩ (by simp only;omega)))
 ·exact Ret_chk (i64b_t (by omega) (by omega)) (ih _ ⟨by simp only;omega,by simp only;omega,by simp only;omega,by simp only;omega⟩ (by simp only;omega))
theorem err_Difference {s:List Int×List Int} (h:ckR s≠0):rings_Difference fuel s=some (0,ckR s):=by
 apply Ret.eq
 unfold rings_Difference
 rw[show rings_Check fuel (s.1,s.2)=_ from rings_Check_any s,Option.bind_some]
 exact Ret_dec (fun _=>Ret_some rfl) fun g=>absurd h g
theorem err_Open {s:List Int×List Int} (h:ckR s≠0) (i:Int):rings_Open fuel (s,i)=some (([],[]),ckR s):=by
 apply Ret.eq
 unfold rings_Open
 rw[show rings_Check fuel (s.1,s.2)=_ from rings_Check_any s,Option.bind_some]
 exact Ret_dec (fun _=>Ret_some rfl) fun g=>absurd h g
theorem err_Turn {s:List Int×List Int} (h:ckR s≠0) (i:Int):rings_Turn fuel (s,i)=some (([],[]),ckR s):=by
 apply Ret.eq
 unfold rings_Turn
 rw[show rings_Check fuel (s.1,s.2)=_ from rings_Check_any s,Option.bind_some]
 exact Ret_dec (fun _=>Ret_some rfl) fun g=>absurd h g
noncomputable def many (s:List Int×List Int):Int:=if ckR s≠0 then ckR s else if 8<s.1.length then 3 else 0
theorem searched_any (s:List Int×List Int):rings_searched fuel s=some (many s):=by
 apply Ret.eq
 unfold rings_searched many
 rw[show rings_Check fuel (s.1,s.2)=_ from rings_Check_any s,Option.bind_some]
 refine Ret_dec (fun g=>Ret_some (by rw[if_pos g])) fun g=>?_
 rw[if_neg g]
 exact Ret_dec (fun g=>Ret_some (by rw[if_pos (by omega)])) fun g=>Ret_some (by rw[if_neg (by omega)])
theorem err_Count {s:List Int×List Int} (h:many s≠0):rings_Count fuel s=some (0,many s):=by
 apply Ret.eq
 unfold rings_Count
 rw[show rings_searched fuel (s.1,s.2)=_ from searched_any s,Option.bind_some]
 exact Ret_dec (fun _=>Ret_some rfl) fun g=>absurd h g
theorem err_First {s:List Int×List Int} (h:many s≠0):rings_First fuel s=some ([],many s):=by
 apply Ret.eq
 unfold rings_First
 rw[show rings_searched fuel (s.1,s.2)=_ from searched_any s,Option.bind_some]
 exact Ret_dec (fun _=>Ret_some rfl) fun g=>absurd h g
open Classical in
noncomputable def lsR (s:List Int×List Int) (p:List Int):Int:=if ckR s≠0 then ckR s else if p.length≠s.1.length then 5 else if Ord s.1.length p then 0 else 1
theorem listed_any (s:List Int×List Int) {p:List Int} (hl:p.length≤10000):rings_listed fuel (s,p)=some (lsR s p):=by
 apply Ret.eq
 by_cases h:ckR s≠0
 ·unfold rings_listed lsR
  rw[show rings_Check fuel ((s,p).1.1,(s,p).1.2)=_ from rings_Check_any s,Option.bind_some,if_pos h]
  exact Ret_dec (fun _=>Ret_some rfl) fun g=>absurd h g
 ·have hv:=ckR_zero.1 (Classical.not_not.1 h)
  refine(rings_listed_ok hv hl).mono fun e ⟨e1,e2⟩=>?_
  unfold lsR
  rw[if_neg h]
  by_cases o:Ord s.1.length p
  ·rw[e1 o,if_neg fun c=>c o.len,if_pos o]
  ·rw[e2 o]
   by_cases c:p.length=s.1.length
   ·rw[if_pos c,if_neg fun g=>g c,if_neg o]
   ·rw[if_neg c,if_pos c]
theorem err_Least {s:List Int×List Int} {p:List Int} (hl:p.length≤10000) (h:lsR s p≠0):rings_Least fuel (s,p)=some ([],lsR s p):=by
 apply Ret.eq
 unfold rings_Least
 rw[show rings_listed fuel ((s.1,s.2),p)=_ from listed_any s hl,Option.bind_some]
 exact Ret_dec (fun _=>Ret_some rfl) fun g=>absurd h g
theorem err_Valid {s:List Int×List Int} {p:List Int} (hl:p.length≤10000) (h:lsR s p≠0):rings_Valid fuel (s,p)=some (lsR s p):=by
 apply Ret.eq
 unfold rings_Valid
 rw[show rings_listed fuel (((s,p).1.1,(s,p).1.2),(s,p).2)=_ from listed_any s hl,Option.bind_some]
 exact Ret_dec (fun _=>Ret_some rfl) fun g=>absurd h g
theorem lsR_val {s:List Int×List Int} {p:List Int}:lsR s p≠13:=by
 unfold lsR
 rcases ckR_val (s:=s) with e | e | e | e | e<;>rw[e]<;>repeat' split
 all_goals simp
theorem err_Kinds {s:List Int×List Int} {p:List Int} (hl:p.length≤10000) (h:lsR s p≠0):rings_Kinds fuel (s,p)=some (([],[]),lsR s p):=by
 apply Ret.eq
 unfold rings_Kinds
 rw[show rings_Valid fuel ((s.1,s.2),p)=_ from err_Valid hl h,Option.bind_some]
 exact Ret_dec (fun _=>Ret_dec (fun _=>Ret_some rfl) fun g=>absurd lsR_val g) fun g=>absurd h g
theorem cross_Kinds {s:List Int×List Int} (h:RValid s) {p:List Int} (hp:Ord s.1.length p) (hc:CrossR (endR s.1) s.1.length (rkF p)):rings_Kinds fuel (s,p)=some (([],[]),12):=by
 apply Ret.eq
 unfold rings_Kinds
 refine Ret_bind (rings_Valid_ok h hp) fun e he=>?_
 rw[he.1 hc]
 exact Ret_dec (fun _=>Ret_dec (fun _=>Ret_some rfl) fun g=>absurd (by decide) g) fun g=>absurd (by decide) g
theorem ord_count {n:Nat} {p:List Int} (hl:p.length=n):Ord n p↔∀i:Nat,i<n→p.count (i:Int)=1:=by
 constructor
 ·intro h i hi
  have:=h.count_eq (i:Int)
  rw[this]
  exact(idL_nodup n).count (a:=(i:Int))▸(if_pos (mem_idL.2 ⟨by omega,by omega⟩))
 ·intro h
  exact ord_of hl fun i hi=>List.count_pos_iff.1 (by rw[h i hi];omega)
theorem count_take {p:List Int} {i:Nat} {x:Int} (h:i<p.length):(p.take (i+1)).count x=(p.take i).count x+if p.getD i 0=x then 1 else 0:=by
 rw[take_snoc h,List.count_append,List.count_singleton]
 congr 1
 by_cases e:p.getD i 0=x
 ·rw[if_pos e,if_pos (by simpa using e)]
 ·rw[if_neg e,if_neg (by simpa using e)]
end X
end Go.Vm
namespace Go.Vm
namespace X
open W Go.Proofs.St
set_option maxRecDepth 100000 in
set_option maxHeartbeats 2000000 in
theorem law22_RingsErrors_true {L K p:List Int} {n:Int} (hL:∀x∈L, -9223372036854775808≤x∧x≤9223372036854775807) (hK:bytes K) (hn: -9223372036854775808≤n∧n≤9223372036854775807):law22_RingsErrors fuel ((L,K),(p,n))=some true:=by
 classical
 apply Ret.eq
 have fin:Ret ((law22_lives fuel ()).bind fun r5=>some r5) (fun x=>x=true):=by rw[lives22];exact Ret_some rfl
 unfold law22_RingsErrors
 refine Ret_jn (fun x:Bool=>x=true∨(x=false∧L.length≤40∧K.length≤40∧p.length≤10)) (fun x hx=>?_) fun j hj=>?_
 ·refine Ret_bif (fun _=>fin) fun gx=>?_
  have hx':L.length≤40∧K.length≤40∧p.length≤10:=by
   rcases hx with e | e
   ·rw[e] at gx;cases gx
   ·exact e.2
  obtain⟨l1,l2,l3⟩:=hx'
  obtain⟨s,hs⟩:∃s:List Int×List Int,s=(L,K):=⟨_,rfl⟩
  have es1:s.1=L:=by rw[hs]
  have es2:s.2=K:=by rw[hs]
  have hp4:p.length≤10000:=by omega
  refine Ret_loop (Inv:=fun x:Int×(Int×Int)=>0≤x.2.2∧x.2.2≤L.length∧(-(64*x.2.2)≤x.2.1∧x.2.1≤64*x.2.2)∧((x.1=0∧(∀k:Nat,(k:Int)<x.2.2→1≤L.getD k 0∧L.getD k 0≤64)∧x.2.1=eR L x.2.2.toNat)∨(x.1=1∧∃x∈L,¬(1≤x∧x≤64)))) (m:=fun x=>((L.length:Int)-x.2.2).toNat) ?_ _ _ ⟨by simp,by simp,by simp,.inl ⟨rfl,fun k hk=>by simp only at hk;omega,rfl⟩⟩ (by simp only[fuel];omega)
  rintro ⟨w,z,i⟩ rec ⟨i1,i2,i3,i4⟩ ih
  simp only at i1 i2 i3 i4 ⊢
  refine Ret_dec (fun hlt=>?_) fun hge=>?_
  ·have hin:inb i L.length=true:=inb_t (by omega) (by omega)
   have m1:=getD_mem (L:=L) (i:=i.toNat) (by omega)
   have bad:¬(1≤L.getD i.toNat 0∧L.getD i.toNat 0≤64)→Ret (chk (i64b (i+1)) (rec (1,(z,i+1)))) (fun x=>x=true):=fun hb=>Ret_chk (i64b_t (by omega) (by omega)) (ih _ ⟨by simp only;omega,by simp only;omega,by simp only;omega,.inr ⟨rfl,_,m1,hb⟩⟩ (by simp only;omega))
   refine Ret_chk hin (Ret_dec (fun g=>bad (by omega)) fun g=>Ret_chk hin (Ret_dec (fun g2=>bad (by omega)) fun g2=>Ret_chk (by simp;omega) ?_))
   have good:∀z':Int,(-(64* (i+1))≤z'∧z'≤64* (i+1))→(z=eR L i.toNat→z'=eR L (i+1).toNat)→Ret (chk (i64b (i+1)) (rec (w,(z',i+1)))) (fun x=>x=true):=fun z' hb hz=>by
    refine Ret_chk (i64b_t (by omega) (by omega)) (ih _ ⟨by simp only;omega,by simp only;omega,by simp only;omega,?_⟩ (by simp only;omega))
    rcases i4 with⟨a,b,c⟩ | ⟨a,b⟩
    ·refine .inl ⟨a,fun k hk=>?_,hz c⟩
     simp only at hk
     by_cases e:(k:Int)=i
     ·rw[show k=i.toNat by omega];omega
     ·exact b k (by omega)
    ·exact .inr ⟨a,b⟩
   refine Ret_dec (fun g3=>?_) fun g3=>?_
   ·refine Ret_chk hin (Ret_chk (i64b_t (by omega) (by omega)) (good _ (by omega) fun e=>?_))
    rw[show(i+1).toNat=i.toNat+1 by omega,eR_even (by omega),←e]
   ·refine Ret_chk hin (Ret_chk (i64b_t (by omega) (by omega)) (good _ (by omega) fun e=>?_))
    rw[show(i+1).toNat=i.toNat+1 by omega,eR_odd (by omega),←e]
  have i4':(w=0∧(∀x∈L,1≤x∧x≤64)∧z=eR L L.length)∨(w=1∧∃x∈L,¬(1≤x∧x≤64)):=by
   rcases i4 with⟨a,b,c⟩ | h
   ·exact .inl ⟨a,all_of_getD fun k hk=>b k (by omega),by rw[c,show i.toNat=L.length by omega]⟩
   ·exact .inr h
  clear i4 ih
  refine Ret_loop (Inv:=fun x:Int×Int=>0≤x.2∧x.2≤K.length∧((x.1=0∧w=0∧∀k:Nat,(k:Int)<x.2→1≤K.getD k 0∧K.getD k 0≤3)∨(x.1=1∧BadS s))) (m:=fun x=>((K.length:Int)-x.2).toNat) ?_ _ _ ⟨by simp,by simp,?_⟩ (by simp only[fuel];omega)
  rotate_left
  ·rcases i4' with⟨a,b,c⟩ | ⟨a,b⟩
   ·exact .inl ⟨a,a,fun k hk=>by simp only at hk;omega⟩
   ·exact .inr ⟨a,.inl (by rw[es1];exact b)⟩
  rintro ⟨w2,i'⟩ rec2 ⟨j1,j2,j3⟩ ih2
  simp only at j1 j2 j3 ⊢
  refine Ret_dec (fun hlt=>?_) fun hge2=>?_
  ·have hin:inb i' K.length=true:=inb_t (by omega) (by omega)
   have m1:=getD_mem (L:=K) (i:=i'.toNat) (by omega)
   have bad:¬(1≤K.getD i'.toNat 0∧K.getD i'.toNat 0≤3)→Ret (chk (i64b (i'+1)) (rec2 (1,i'+1))) (fun x=>x=true):=fun hb=>Ret_chk (i64b_t (by omega) (by omega)) (ih2 _ ⟨by simp only;omega,by simp only;omega,.inr ⟨rfl,.inr ⟨_,by rw[es2];exact m1,hb⟩⟩⟩ (by simp only;omega))
   refine Ret_chk hin (Ret_dec (fun g=>bad (by omega)) fun g=>Ret_chk hin (Ret_dec (fun g2=>bad (by omega)) fun g2=>?_))
   refine Ret_chk (i64b_t (by omega) (by omega)) (ih2 _ ⟨by simp only;omega,by simp only;omega,?_⟩ (by simp only;omega))
   rcases j3 with⟨a,b,c⟩ | h
   ·refine .inl ⟨a,b,fun k hk=>?_⟩
    simp only at hk
    by_cases e:(k:Int)=i'
    ·rw[show k=i'.toNat by omega];omega
    ·exact c k (by omega)
   ·exact .inr h
  have w2v:(w2=0∧¬BadS s∧z=eR L L.length)∨(w2=1∧BadS s):=by
   rcases j3 with⟨a,b,c⟩ | h
   ·rcases i4' with⟨a',b',c'⟩ | ⟨a',_⟩
    ·refine .inl ⟨a,?_,c'⟩
     rintro (⟨x,hx,g⟩ | ⟨x,hx,g⟩)
     ·rw[es1] at hx;exact g (b' x hx)
     ·rw[es2] at hx;exact g (all_of_getD (L:=K) (P:=fun x=>1≤x∧x≤3) (fun k hk=>c k (by omega)) x hx)
    ·omega
   ·exact .inr h
  clear j3 ih2 i4'
  refine Ret_jn (fun x:Bool=>x=true↔(L.length%2=1∨L.length=0)) (fun x5 h5=>?_) fun j hj=>?_
  rotate_left
  ·refine Ret_chk (by simp) (Ret_dec (fun g=>hj _ ?_) fun g=>hj _ ?_)
   ·exact⟨fun _=>.inl (by omega),fun _=>rfl⟩
   ·rw[decide_eq_true_iff];omega
  refine Ret_jn (fun x:Int=>x=if L.length%2=1∨L.length=0 then 1 else w2) (fun x6 h6=>?_) fun j hj=>?_
  rotate_left
  ·refine Ret_bif (fun g=>hj _ ?_) fun g=>hj _ ?_
   ·rw[if_pos (h5.1 g)]
   ·rw[if_neg (fun c=>by rw[h5.2 c] at g;cases g)]
  refine Ret_jn (fun x:Bool=>x=true↔(x6=0∧z≠0)) (fun x7 h7=>?_) fun j hj=>?_
  rotate_left
  ·refine Ret_dec (fun g=>hj _ ?_) fun g=>hj _ ?_
   ·rw[decide_eq_true_iff];exact⟨fun a=>⟨g,a⟩,fun a=>a.2⟩
   ·exact⟨(fun a=>by cases a),fun a=>absurd a.1 g⟩
  refine Ret_jn (fun x:Int=>x=if x6=0∧z≠0 then 14 else x6) (fun x8 h8=>?_) fun j hj=>?_
  rotate_left
  ·refine Ret_bif (fun g=>hj _ ?_) fun g=>hj _ ?_
   ·rw[if_pos (h7.1 g)]
   ·rw[if_neg (fun c=>by rw[h7.2 c] at g;cases g)]
  refine Ret_jn (fun x:Int=>x=if K.length≠L.length then 5 else x8) (fun x9 h9=>?_) fun j hj=>?_
  rotate_left
  ·refine Ret_dec (fun g=>hj _ ?_) fun g=>hj _ ?_
   ·rw[if_pos (by omega)]
   ·rw[if_neg (by omega)]
  refine Ret_jn (fun x:Int=>x=ckR s) (fun x10 h10=>?_) fun j hj=>?_
  rotate_left
  ·have key:ckR s=if 32<L.length then 3 else x9:=by
    unfold ckR
    rw[es1,es2]
    by_cases c1:32<L.length
    ·rw[if_pos c1,if_pos c1]
    rw[if_neg c1,if_neg c1,h9]
    by_cases c2:K.length≠L.length
    ·rw[if_pos c2,if_pos c2]
    rw[if_neg c2,if_neg c2,h8,h6]
    by_cases c3:L.length%2=1∨L.length=0
    ·rw[if_pos c3,if_pos c3,if_neg (by omega)]
    rw[if_neg c3,if_neg c3]
    rcases w2v with⟨a,b,c⟩ | ⟨a,b⟩
    ·rw[if_neg b,a,←c]
     by_cases c4:z≠0
     ·rw[if_pos c4,if_pos ⟨rfl,c4⟩]
     ·rw[if_neg c4,if_neg fun g=>c4 g.2]
    ·rw[if_pos b,if_neg (by omega),a]
   refine Ret_dec (fun g=>hj _ ?_) fun g=>hj _ ?_
   ·rw[key,if_pos (by omega)]
   ·rw[key,if_neg (by omega)]
  clear h5 h6 h7 h8 h9 w2v
  subst h10
  refine Ret_jn (fun x:Bool=>x=true↔(ckR s=0∧8<L.length)) (fun x11 h11=>?_) fun j hj=>?_
  rotate_left
  ·refine Ret_dec (fun g=>hj _ ?_) fun g=>hj _ ?_
   ·rw[decide_eq_true_iff];exact⟨fun a=>⟨g,by omega⟩,fun a=>by omega⟩
   ·exact⟨(fun a=>by cases a),fun a=>absurd a.1 g⟩
  refine Ret_jn (fun x:Int=>x=many s) (fun x12 h12=>?_) fun j hj=>?_
  rotate_left
  ·unfold many at hj
   rw[es1] at hj
   refine Ret_bif (fun g=>hj _ ?_) fun g=>hj _ ?_
   ·have:=h11.1 g
    rw[if_neg (fun c=>c this.1),if_pos this.2]
   ·by_cases c:ckR s=0
    ·rw[if_neg (fun c'=>c' c),if_neg (fun c2=>by rw[h11.2 ⟨c,c2⟩] at g;cases g),c]
    ·rw[if_pos c]
  subst h12
  have hunit:∃r,rings_Unit fuel n=some r∧((2≤n∧n≤32∧n%2=0)→r.2=0∧rings_Check fuel (r.1.1,r.1.2)=some 0∧(r.1.1.length:Int)=n)∧(¬(2≤n∧n≤32∧n%2=0)→r=(([],[]),1)):=by
   by_cases g:2≤n∧n≤32∧n%2=0
   ·obtain⟨r,a,b,c,d⟩:=rings_Unit_good g
    exact⟨r,a,fun _=>⟨b,c,d⟩,fun h=>absurd g h⟩
   ·exact⟨_,rings_Unit_bad g,fun h=>absurd h g,fun _=>rfl⟩
  obtain⟨u,u1,u2,u3⟩:=hunit
  rw[u1,Option.bind_some]
  refine Ret_jn (fun x:Bool=>x=true↔(2≤n∧n≤32∧n%2=0)) (fun x14 h14=>?_) fun j hj=>?_
  rotate_left
  ·refine Ret_dec (fun g=>Ret_dec (fun g2=>Ret_chk (by simp;omega) (hj _ ?_)) fun g2=>hj _ ?_) fun g=>hj _ ?_
   ·rw[decide_eq_true_iff];omega
   ·exact⟨(fun a=>by cases a),fun a=>by omega⟩
   ·exact⟨(fun a=>by cases a),fun a=>by omega⟩
  refine Ret_jn (fun x:Bool=>x=false) (fun x15 h15=>?_) fun j hj=>?_
  rotate_left
  ·rw[show rings_Check fuel (L,K)=some (ckR s) by rw[hs];exact rings_Check_any _,Option.bind_some]
   refine Ret_dec (fun g=>absurd rfl g) fun _=>?_
   by_cases gd:2≤n∧n≤32∧n%2=0
   ·have ht:=h14.2 gd
    obtain⟨v1,v2,v3⟩:=u2 gd
    refine Ret_bif (fun g=>by rw[ht,v1] at g;cases g) fun _=>Ret_bif (fun _=>?_) fun g=>by rw[ht] at g;cases g
    rw[v2,Option.bind_some]
    exact Ret_dec (fun g=>absurd rfl g) fun _=>Ret_dec (fun g=>absurd v3 g) fun _=>Ret_bif (fun g=>by rw[ht] at g;cases g) fun _=>hj _ rfl
   ·have ht:x14=false:=by cases hx14:x14;rfl;exact absurd (h14.1 hx14) gd
    have hu:=u3 gd
    refine Ret_bif (fun g=>by rw[ht,hu] at g;cases g) fun _=>Ret_bif (fun g=>by rw[ht] at g;cases g) fun _=>?_
    refine Ret_bif (fun _=>Ret_dec (fun g=>absurd (by rw[hu]) g) fun _=>hj _ (by rw[hu];rfl)) fun _=>hj _ rfl
  refine Ret_bif (fun g=>by rw[h15] at g;cases g) fun _=>?_
  have f1:Ret (rings_Difference fuel (L,K)) fun r=>r.2=ckR s:=by
   rw[←hs]
   by_cases c:ckR s=0
   ·have hv:=ckR_zero.1 c
    obtain⟨r,a,b⟩:=rings_Difference_any hv
    exact⟨r,a,b.trans c.symm⟩
   ·rw[err_Difference c];exact Ret_some rfl
  have f2:Ret (rings_Open fuel ((L,K),0)) fun r=>r.2=ckR s:=by
   rw[←hs]
   by_cases c:ckR s=0
   ·have hv:=ckR_zero.1 c
    have:=hv.two
    rw[rings_Open_ok hv,if_pos (by omega),c];exact Ret_some rfl
   ·rw[err_Open c];exact Ret_some rfl
  have f3:Ret (rings_Turn fuel ((L,K),0)) fun r=>r.2=ckR s:=by
   rw[←hs]
   by_cases c:ckR s=0
   ·have hv:=ckR_zero.1 c
    have:=hv.two
    rw[rings_Turn_ok hv,if_pos (by omega),c];exact Ret_some rfl
   ·rw[err_Turn c];exact Ret_some rfl
  refine Ret_bind f1 fun r18 g18=>Ret_bind f2 fun r19 g19=>Ret_bind f3 fun r20 g20=>?_
  refine Ret_jn (fun x:Bool=>x=false) (fun x21 h21=>?_) fun j hj=>?_
  rotate_left
  ·refine Ret_dec (fun g=>absurd g18 g) fun _=>Ret_dec (fun g=>absurd g19 g) fun _=>hj _ ?_
   rw[g20];simp
  refine Ret_bif (fun g=>by rw[h21] at g;cases g) fun _=>?_
  refine Ret_jn (fun x:Bool=>x=true↔(many s≠0∨L.length≤6)) (fun x22 h22=>?_) fun j hj=>?_
  rotate_left
  ·refine Ret_dec (fun g=>hj _ ?_) fun g=>hj _ ?_
   ·exact⟨fun _=>.inl g,fun _=>rfl⟩
   ·rw[decide_eq_true_iff];omega
  refine Ret_jn (fun x:Unit=>True) (fun x23 _=>?_) fun j hj=>?_
  rotate_left
  ·refine Ret_bif (fun g=>?_) fun g=>hj _ trivial
   have hh:=h22.1 g
   have f4:Ret (rings_Count fuel (L,K)) fun r=>r.2=many s∧(many s≠0→r.1=0)∧(0≤r.1∧r.1≤40320):=by
    rw[←hs]
    by_cases c:many s=0
    ·have hv:RValid s:=ckR_zero.1 (Classical.byContradiction fun g=>by unfold many at c;rw[if_pos g] at c;exact g c)
     have hl:s.1.length≤8:=by rw[es1];omega
     obtain⟨W,hW⟩:=ways_ex hv hl
     have:=hW.len hl
     rw[rings_Count_ok hv hl hW,c]
     exact Ret_some ⟨rfl,fun g=>absurd rfl g,by simp only;omega⟩
    ·rw[err_Count c];exact Ret_some ⟨rfl,fun _=>rfl,by simp⟩
   have f5:Ret (rings_First fuel (L,K)) fun r=>(r.2=many s∨(many s=0∧r.2=7))∧(many s≠0→r.1=[]):=by
    rw[←hs]
    by_cases c:many s=0
    ·have hv:RValid s:=ckR_zero.1 (Classical.byContradiction fun g=>by unfold many at c;rw[if_pos g] at c;exact g c)
     have hl:s.1.length≤8:=by rw[es1];omega
     obtain⟨W,hW⟩:=ways_ex hv hl
     rw[rings_First_ok hv hl hW,c]
     by_cases e:W=[]
     ·rw[if_pos e];exact Ret_some ⟨.inr ⟨rfl,rfl⟩,fun g=>absurd rfl g⟩
     ·rw[if_neg e];exact Ret_some ⟨.inl rfl,fun g=>absurd rfl g⟩
    ·rw[err_First c];exact Ret_some ⟨.inl rfl,fun _=>rfl⟩
   refine Ret_bind f4 fun r24 ⟨q1,q2,q3⟩=>Ret_bind f5 fun r25 ⟨q4,q5⟩=>?_
   refine Ret_jn (fun x:Bool=>x=false) (fun x26 h26=>?_) fun j' hj'=>?_
   ·exact Ret_bif (fun g=>by rw[h26] at g;cases g) fun _=>hj _ trivial
   ·have sum:many s≠0→Ret (chk (i64b (r24.1+ ((r25.1.length:Nat):Int))) (j' (decide ((r24.1+ ((r25.1.length:Nat):Int))≠0)))) (fun x=>x=true):=fun c=>by
     rw[q2 c,q5 c]
     exact Ret_chk (by rfl) (hj' _ (by simp))
    refine Ret_dec (fun g=>absurd q1 g) fun _=>Ret_dec (fun g=>?_) fun g=>?_
    ·have m0:many s=0:=by rcases q4 with e | e;exact absurd e g;exact e.1
     have r7:r25.2=7:=by rcases q4 with e | e;exact absurd e g;exact e.2
     exact Ret_dec (fun c=>absurd m0 c) fun _=>Ret_dec (fun c=>absurd r7 c) fun _=>Ret_dec (fun c=>absurd m0 c) fun _=>hj' _ rfl
    ·exact Ret_dec (fun c=>sum c) fun _=>hj' _ rfl
  clear h22
  refine Ret_loop (Inv:=fun x:Int×Int=>0≤x.2∧x.2≤L.length∧((x.1=ckR s∧(ckR s=0→∀k:Nat,(k:Int)<x.2→p.count (k:Int)=1))∨(x.1=1∧ckR s=0∧∃k:Nat,k<L.length∧p.count (k:Int)≠1))) (m:=fun x=>((L.length:Int)-x.2).toNat) ?_ _ _ ⟨by simp,by simp,.inl ⟨rfl,fun _ k hk=>by simp only at hk;omega⟩⟩ (by simp only[fuel];omega)
  rintro ⟨w3,i3⟩ rec3 ⟨k1,k2,k3⟩ ih3
  simp only at k1 k2 k3 ⊢
  refine Ret_jn (fun x:Bool=>x=true↔(i3<L.length∧ckR s=0)) (fun x28 h28=>?_) fun j hj=>?_
  rotate_left
  ·refine Ret_dec (fun g=>hj _ ?_) fun g=>hj _ ?_
   ·rw[decide_eq_true_iff];exact⟨fun a=>⟨g,a⟩,fun a=>a.2⟩
   ·exact⟨(fun a=>by cases a),fun a=>absurd a.1 g⟩
  refine Ret_bif (fun g=>?_) fun g=>?_
  ·obtain⟨g1,g2⟩:=h28.1 g
   refine Ret_loop (Inv:=fun x:Int×Int=>0≤x.2∧x.2≤p.length∧x.1=((p.take x.2.toNat).count i3:Nat)) (m:=fun x=>((p.length:Int)-x.2).toNat) ?_ _ _ ⟨by simp,by simp,by simp⟩ (by simp only[fuel];omega)
   rintro ⟨c,q⟩ rec4 ⟨m1,m2,m3⟩ ih4
   simp only at m1 m2 m3 ⊢
   refine Ret_dec (fun hlt=>?_) fun hge3=>?_
   ·have cl:(p.take q.toNat).count i3≤p.length:=Nat.le_trans List.count_le_length (by rw[List.length_take];omega)
    have ct:=count_take (p:=p) (i:=q.toNat) (x:=i3) (by omega)
    rw[show q.toNat+1=(q+1).toNat by omega] at ct
    refine Ret_chk (inb_t (by omega) (by omega)) (Ret_dec (fun e=>?_) fun e=>?_)
    ·refine Ret_chk (i64b_t (by omega) (by omega)) (Ret_chk (i64b_t (by omega) (by omega)) (ih4 _ ⟨by simp only;omega,by simp only;omega,?_⟩ (by simp only;omega)))
     simp only
     rw[ct,if_pos e,m3];omega
    ·refine Ret_chk (i64b_t (by omega) (by omega)) (ih4 _ ⟨by simp only;omega,by simp only;omega,?_⟩ (by simp only;omega))
     simp only
     rw[ct,if_neg e,m3];rfl
   ·rw[List.take_of_length_le (by omega)] at m3
    have ei:((i3.toNat:Nat):Int)=i3:=by omega
    refine Ret_dec (fun e=>?_) fun e=>?_
    ·exact Ret_chk (i64b_t (by omega) (by omega)) (ih3 _ ⟨by simp only;omega,by simp only;omega,.inr ⟨rfl,g2,i3.toNat,by omega,by rw[ei];omega⟩⟩ (by simp only;omega))
    ·refine Ret_chk (i64b_t (by omega) (by omega)) (ih3 _ ⟨by simp only;omega,by simp only;omega,?_⟩ (by simp only;omega))
     rcases k3 with⟨a,b⟩ | h
     ·refine .inl ⟨a,fun z k hk=>?_⟩
      simp only at hk
      by_cases e':(k:Int)=i3
      ·rw[e'];omega
      ·exact b z k (by omega)
     ·exact .inr h
  ·have kf:ckR s=0→((w3=0∧∀k:Nat,k<L.length→p.count (k:Int)=1)∨(w3=1∧∃k:Nat,k<L.length∧p.count (k:Int)≠1)):=fun c=>by
    have hi:¬i3<L.length:=fun c2=>by rw[h28.2 ⟨c2,c⟩] at g;cases g
    rcases k3 with⟨a,b⟩ | ⟨a,_,b⟩
    ·exact .inl ⟨by omega,fun k hk=>b c k (by omega)⟩
    ·exact .inr ⟨a,b⟩
   have kn:ckR s≠0→w3=ckR s:=fun c=>by
    rcases k3 with⟨a,_⟩ | ⟨_,b,_⟩
    ·exact a
    ·exact absurd b c
   refine Ret_jn (fun x:Bool=>x=true↔(ckR s=0∧p.length≠L.length)) (fun x30 h30=>?_) fun j hj=>?_
   rotate_left
   ·refine Ret_dec (fun g=>hj _ ?_) fun g=>hj _ ?_
    ·rw[decide_eq_true_iff];exact⟨fun a=>⟨g,by omega⟩,fun a=>by omega⟩
    ·exact⟨(fun a=>by cases a),fun a=>absurd a.1 g⟩
   refine Ret_jn (fun x:Int=>x=lsR s p) (fun x31 h31=>?_) fun j hj=>?_
   rotate_left
   ·refine Ret_bif (fun g=>hj _ ?_) fun g=>hj _ ?_
    ·have:=h30.1 g
     unfold lsR
     rw[es1,if_neg fun c=>c this.1,if_pos this.2]
    ·unfold lsR
     rw[es1]
     by_cases c:ckR s=0
     ·have hl:p.length=L.length:=Classical.byContradiction fun c2=>by rw[h30.2 ⟨c,c2⟩] at g;cases g
      rw[if_neg fun c2=>c2 c,if_neg fun c2=>c2 hl]
      rcases kf c with⟨a,b⟩ | ⟨a,k,hk,b⟩
      ·rw[if_pos ((ord_count hl).2 b),a]
      ·rw[if_neg fun o=>b ((ord_count hl).1 o k hk),a]
     ·rw[if_pos c,kn c]
   subst h31
   by_cases c:lsR s p=0
   ·have c0:ckR s=0:=Classical.byContradiction fun g=>by unfold lsR at c;rw[if_pos g] at c;exact g c
    have hv:=ckR_zero.1 c0
    have ho:Ord s.1.length p:=Classical.byContradiction fun g=>by
     unfold lsR at c
     rw[if_neg fun g=>g c0,if_neg g] at c
     split at c<;>cases c
    rw[←hs]
    refine Ret_bind (rings_Least_ok hv ho) fun r32 ⟨t1,_⟩=>?_
    obtain⟨e,he,hA⟩:=law22_check_ok hv ho
    obtain⟨e',he',hA'⟩:=rings_Valid_ok hv ho
    have ee:=hA'.uniq hA
    have e2:=hA.1
    have hkind:Ret (rings_Kinds fuel (s,p)) fun r=>r.2=0↔e≠12:=by
     by_cases cc:CrossR (endR s.1) s.1.length (rkF p)
     ·rw[cross_Kinds hv ho cc]
      exact Ret_some ⟨(fun a=>by cases a),fun a=>absurd (hA.1 cc) a⟩
     ·rw[rings_Kinds_ok hv ho cc]
      refine Ret_some ⟨fun _ e12=>?_,fun _=>rfl⟩
      by_cases ww:WrongR s.2 s.1.length (rkF p)
      ·have:=hA.2.1 cc ww;omega
      ·have:=hA.2.2 cc ww;omega
    refine Ret_bind hkind fun r33 t2=>?_
    refine Ret_dec (fun g=>absurd c g) fun _=>?_
    refine Ret_dec (fun _=>?_) fun g=>absurd t1 g
    rw[he',Option.bind_some,he,Option.bind_some]
    refine Ret_dec (fun _=>?_) fun g=>absurd ee g
    rw[Option.bind_some]
    refine Ret_bif (fun _=>fin) fun g=>False.elim ?_
    by_cases a:r33.2=0
    ·rw[decide_eq_true a,decide_eq_true (t2.1 a)] at g;cases g
    ·rw[decide_eq_false a,decide_eq_false (fun b=>a (t2.2 b))] at g;cases g
   ·rw[←hs,err_Least hp4 c,Option.bind_some,err_Kinds hp4 c,Option.bind_some]
    refine Ret_dec (fun _=>?_) fun g=>absurd c g
    refine Ret_dec (fun _=>?_) fun g=>absurd rfl g
    refine Ret_dec (fun _=>?_) fun g=>absurd rfl g
    rw[err_Valid hp4 c,Option.bind_some]
    refine Ret_dec (fun _=>?_) fun g=>absurd rfl g
    exact Ret_chk (by rfl) (Ret_dec (fun _=>fin) fun g=>absurd rfl g)
 ·refine Ret_dec (fun g=>hj _ (.inl rfl)) fun g1=>Ret_dec (fun g=>hj _ (.inl rfl)) fun g2=>hj _ ?_
  by_cases c:p.length≤10
  ·right
   exact⟨decide_eq_false (by simp only;omega),by simp only at g1;omega,by simp only at g2;omega,c⟩
  ·left
   exact decide_eq_true (by simp only;omega)
end X
end Go.Vm
