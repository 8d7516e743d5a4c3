/-
  A closed line that does not cross itself turns once around: its half turns to the one side and to the other differ by two.
  Rings: in a pile in which nothing crosses mountains and valleys differ by two.
  Rings: Turn, Open, Over; rings that are turned or turned over have as many ways.
  Rings: the law RingsTurn.
-/
import Derived.Test.YtofimkliemlojaaRC
import Derived.Test.YtofimkliemlojaaRL
set_option linter.unusedSimpArgs false
set_option linter.unusedVariables false
set_option linter.unusedSectionVars false
set_option linter.unnecessarySimpa false
namespace Go.Vm
namespace X
def sgR (r:Nat→Int) (a b:Nat):Int:=if r a<r b then 1 else -1
def dRi (P:Nat→Int) (i j:Nat):Int:=if P i<P j then 1 else 0
structure Curve (n:Nat) (P r:Nat→Int):Prop where
 two:2<n
 even:n%2=0
 close:P n=P 0
 ext:∀j,0<j→j<n→P 0<P j
 up:∀i,i<n→i%2=0→P i<P (i+1)
 down:∀i,i<n→i%2=1→P (i+1)<P i
 inj:∀i j,i<n→j<n→P i=P j→i=j
 rinj:∀i j,0<i→i≤n→0<j→j≤n→r i=r j→i=j
 nc:∀i j,i<n→0<j→j<n→j≠i→j≠i+1→(P i<P j∧P j<P (i+1)∨P (i+1)<P j∧P j<P i)→(r j<r (i+1)↔r (j+1)<r (i+1))
def hW (P r:Nat→Int) (i j:Nat):Int:=(dRi P i (j+1)-dRi P i j)*sgR r (i+1) (j+1)
def vW (P r:Nat→Int) (i j:Nat):Int:=(dRi P (i+1) j-dRi P i j)*sgR r (i+1) j
def tW (r:Nat→Int) (k:Nat):Int:=if k%2=0 then sgR r k (k+1) else-sgR r k (k+1)
def sumW (f:Nat→Int) (a:Nat):Nat→Int
 | 0=>0
 | k+1=>sumW f a k+f (a+k)
theorem sq_plain {d00 d01 d10 d11 s s1 s2:Int} (h1:d10≠d00→s1=s) (h2:d11≠d10→s2=s):(d01-d00)*s+ (d11-d01)*s=(d10-d00)*s1+ (d11-d10)*s2:=by
 have e1:(d10-d00)*s1=(d10-d00)*s:=by
  by_cases h:d10=d00
  ·rw[h,Int.sub_self,Int.zero_mul,Int.zero_mul]
  ·rw[h1 h]
 have e2:(d11-d10)*s2=(d11-d10)*s:=by
  by_cases h:d11=d10
  ·rw[h,Int.sub_self,Int.zero_mul,Int.zero_mul]
  ·rw[h2 h]
 rw[e1,e2,←Int.add_mul,←Int.add_mul]
 congr 1
 omega
section
variable {n:Nat} {P r:Nat→Int} (h:Curve n P r)
include h
omit h in
theorem apartC {i j k:Nat} (e:dRi P i k≠dRi P j k):P i<P k∧P k≤P j∨P j<P k∧P k≤P i:=by
 unfold dRi at e
 by_cases h1:P i<P k<;>by_cases h2:P j<P k<;>simp[h1,h2] at e<;>omega
theorem Curve.side {i k:Nat} (hi:i<n) (hk:0<k) (hkn:k<n) (h1:k≠i) (h2:k≠i+1) (e:P i<P k∧P k≤P (i+1)∨P (i+1)<P k∧P k≤P i∨P i≤P k∧P k<P (i+1)∨P (i+1)≤P k∧P k<P i):r k<r (i+1)↔r (k+1)<r (i+1):=by
 have n1:P k≠P i:=fun e=>h1 (h.inj _ _ hkn hi e)
 have n2:P k≠P (i+1):=fun e=>by
  by_cases he:i+1<n
  ·exact h2 (h.inj _ _ hkn he e)
  ·rw[show i+1=n by omega,h.close] at e
   have:=h.ext k hk hkn
   omega
 exact h.nc i k hi hk hkn h1 h2 (by omega)
theorem Curve.sq {i j:Nat} (hij:i+2≤j) (hj:j<n):hW P r i j+vW P r i (j+1)=vW P r i j+hW P r (i+1) j:=by
 unfold hW vW
 refine sq_plain (fun e=>?_) fun e=>?_
 ·have a:=apartC (P:=P) (i:=i) (j:=i+1) (k:=j) (fun c=>e c.symm)
  have b:=h.side (i:=i) (k:=j) (by omega) (by omega) hj (by omega) (by omega) (by omega)
  have r1:r j≠r (i+1):=fun c=>absurd (h.rinj _ _ (by omega) (by omega) (by omega) (by omega) c) (by omega)
  have r2:r (j+1)≠r (i+1):=fun c=>absurd (h.rinj _ _ (by omega) (by omega) (by omega) (by omega) c) (by omega)
  unfold sgR
  by_cases c:r (i+1)<r j
  ·rw[if_pos c,if_pos (by omega)]
  ·rw[if_neg c,if_neg (by omega)]
 ·have b:=h.side (i:=j) (k:=i+1) (by omega) (by omega) (by omega) (by omega) (by omega) (by
   unfold dRi at e
   by_cases h1:P (i+1)<P (j+1)<;>by_cases h2:P (i+1)<P j<;>simp[h1,h2] at e<;>omega)
  unfold sgR
  by_cases c:r (i+1)<r (j+1)
  ·rw[if_pos c,if_pos (by omega)]
  ·rw[if_neg c,if_neg (by omega)]
theorem Curve.tri {i:Nat} (hi:i+2≤n):hW P r i (i+1)+vW P r i (i+2)=tW r (i+1):=by
 unfold hW vW tW
 rw[←Int.add_mul]
 have d1:dRi P i (i+1)=if i%2=0 then 1 else 0:=by
  unfold dRi
  by_cases e:i%2=0
  ·rw[if_pos e,if_pos (h.up i (by omega) e)]
  ·rw[if_neg e,if_neg (by have:=h.down i (by omega) (by omega);omega)]
 have d2:dRi P (i+1) (i+2)=if i%2=0 then 0 else 1:=by
  unfold dRi
  by_cases e:i%2=0
  ·rw[if_pos e,if_neg (by have:P (i+2)<P (i+1):=h.down (i+1) (by omega) (by omega);omega)]
  ·rw[if_neg e,if_pos (show P (i+1)<P (i+2) from h.up (i+1) (by omega) (by omega))]
 rw[show i+1+1=i+2 from rfl,show dRi P i (i+2)-dRi P i (i+1)+ (dRi P (i+1) (i+2)-dRi P i (i+2))=dRi P (i+1) (i+2)-dRi P i (i+1) by omega,d1,d2]
 by_cases e:i%2=0
 ·rw[if_pos e,if_pos e,if_neg (by omega)];omega
 ·rw[if_neg e,if_neg e,if_pos (by omega)];omega
theorem Curve.row {i:Nat}:∀k,i+2+k≤n→(i≠0∨i+2+k<n)→sumW (hW P r i) (i+1) (k+1)+vW P r i (i+2+k)=tW r (i+1)+sumW (hW P r (i+1)) (i+2) k
 | 0,h1,_=>by
   rw[←h.tri (by omega)]
   simp[sumW]
 | k+1,h1,h2=>by
   have ih:=Curve.row (i:=i) k (by omega) (by omega)
   have:=h.sq (i:=i) (j:=i+2+k) (by omega) (by omega)
   have e1:sumW (hW P r i) (i+1) (k+1+1)=sumW (hW P r i) (i+1) (k+1)+hW P r i (i+1+ (k+1)):=rfl
   have e2:sumW (hW P r (i+1)) (i+2) (k+1)=sumW (hW P r (i+1)) (i+2) k+hW P r (i+1) (i+2+k):=rfl
   rw[show i+1+ (k+1)=i+2+k by omega] at e1
   rw[show i+2+ (k+1)=i+2+k+1 by omega]
   omega
end
end X
end Go.Vm
namespace Go.Vm
namespace X
open W
def rot (n e k:Nat):Nat:=if e+k<n then e+k else e+k-n
theorem rot_lt {n e k:Nat} (he:e<n) (hk:k≤n):rot n e k<n:=by unfold rot;split<;>omega
def nx (n i:Nat):Nat:=if i+1<n then i+1 else 0
structure RkF (n:Nat) (f:Int→Int):Prop where
 lo:∀x:Nat,x<n→0≤f x
 hi:∀x:Nat,x<n→f x<n
 inj:∀x y:Nat,x<n→y<n→f x=f y→x=y
section
variable {E:List Int} {n:Nat} {f:Int→Int} (h:REnds E n) (hf:RkF n f)
include h hf
end
end X
end Go.Vm
namespace Go.Vm
namespace X
open W Go.Proofs.St
theorem slices_Concat_int_ok {A B:List Int} (hA:A.length≤1000) (hB:B.length≤1000):slices_Concat_int fuel [A,B]=some (A++B):=by
 apply Ret.eq
 unfold slices_Concat_int
 have l2:(([A,B]:List (List Int)).length:Int)=2:=rfl
 refine Ret_loop (Inv:=fun x:Int×Int=>0≤x.2∧x.2≤2∧x.1=if x.2=0 then(0:Int) else if x.2=1 then(A.length:Int) else A.length+B.length) (m:=fun x=>(2-x.2).toNat) ?_ _ _ ⟨by simp,by simp,by simp⟩ (by simp only[fuel];omega)
 rintro ⟨z,i⟩ rec ⟨i1,i2,i3⟩ ih
 simp only at i1 i2 i3 ⊢
 refine Ret_dec (fun hlt=>?_) fun hge=>?_
 ·rcases(by omega:i=0∨i=1) with rfl | rfl
  ·rw[if_pos rfl] at i3
   refine Ret_chk (inb_t (by omega) (by omega)) ?_
   show Ret (chk (i64b (z+ ((A.length:Nat):Int))) _) _
   refine Ret_chk (i64b_t (by omega) (by omega)) (Ret_dec (fun g=>?_) fun g=>Ret_chk (by rfl) (ih _ ⟨by simp,by simp,?_⟩ (by simp)))
   ·change z+ ((A.length:Nat):Int)<0 at g
    omega
   ·show z+ ((A.length:Nat):Int)=if(1:Int)=0 then 0 else if(1:Int)=1 then(A.length:Int) else _
    rw[if_neg (by omega),if_pos rfl];omega
  ·rw[if_neg (by omega),if_pos rfl] at i3
   refine Ret_chk (inb_t (by omega) (by omega)) ?_
   show Ret (chk (i64b (z+ ((B.length:Nat):Int))) _) _
   refine Ret_chk (i64b_t (by omega) (by omega)) (Ret_dec (fun g=>?_) fun g=>Ret_chk (by rfl) (ih _ ⟨by simp,by simp,?_⟩ (by simp)))
   ·change z+ ((B.length:Nat):Int)<0 at g
    omega
   ·show z+ ((B.length:Nat):Int)=if(2:Int)=0 then 0 else if(2:Int)=1 then(A.length:Int) else _
    rw[if_neg (by omega),if_neg (by omega)];omega
 ·rw[show i=2 by omega,if_neg (by omega),if_neg (by omega)] at i3
  unfold slices_Grow_int
  rw[inb_t (by simp only;omega) (by simp only;omega),cond_true,Option.bind_some]
  refine Ret_loop (Inv:=fun x:List Int×Int=>0≤x.2∧x.2≤2∧x.1=if x.2=0 then [] else if x.2=1 then A else A++B) (m:=fun x=>(2-x.2).toNat) ?_ _ _ ⟨by simp,by simp,by simp⟩ (by simp only[fuel];omega)
  rintro ⟨L,k⟩ rec2 ⟨j1,j2,j3⟩ ih2
  simp only at j1 j2 j3 ⊢
  refine Ret_dec (fun hlt2=>?_) fun hge2=>Ret_some (by rw[j3,if_neg (by omega),if_neg (by omega)])
  rcases(by omega:k=0∨k=1) with rfl | rfl
  ·rw[if_pos rfl] at j3
   subst j3
   refine Ret_chk (inb_t (by omega) (by omega)) ?_
   show Ret (chk (lenOk (([]:List Int).length+A.length)) (chk _ (rec2 ([]++A,_)))) _
   exact Ret_chk (lenOk_t (by simp;omega)) (Ret_chk (by rfl) (ih2 _ ⟨by simp,by simp,by simp⟩ (by simp)))
  ·rw[if_neg (by omega),if_pos rfl] at j3
   subst j3
   refine Ret_chk (inb_t (by omega) (by omega)) ?_
   show Ret (chk (lenOk (L.length+B.length)) (chk _ (rec2 (L++B,_)))) _
   exact Ret_chk (lenOk_t (by omega)) (Ret_chk (by rfl) (ih2 _ ⟨by simp,by simp,by simp⟩ (by simp)))
theorem rings_begun_int_ok {L:List Int} {k:Int} (hL:L.length≤1000) (h0:0≤k) (h1:k≤L.length):rings_begun_int fuel (L,k)=some (L.drop k.toNat++L.take k.toNat):=by
 unfold rings_begun_int
 simp only
 have e1:((L.drop k.toNat).take (L.length-k.toNat))=L.drop k.toNat:=List.take_of_length_le (by simp)
 rw[chk_t (by simp[bnb];omega),chk_t (by simp[bnb];omega),e1,List.drop_zero,slices_Concat_int_ok (by simp;omega) (by simp;omega),Option.bind_some]
 generalize L.drop k.toNat++L.take k.toNat=M
 rw[chk_t (by simp[bnb]),List.take_of_length_le (Nat.le_refl _),chk_t (by simp[capIs])]
theorem slices_Concat_api_Kind_ok {A B:List Int} (hA:A.length≤1000) (hB:B.length≤1000):slices_Concat_api_Kind fuel [A,B]=some (A++B):=by
 apply Ret.eq
 unfold slices_Concat_api_Kind
 have l2:(([A,B]:List (List Int)).length:Int)=2:=rfl
 refine Ret_loop (Inv:=fun x:Int×Int=>0≤x.2∧x.2≤2∧x.1=if x.2=0 then(0:Int) else if x.2=1 then(A.length:Int) else A.length+B.length) (m:=fun x=>(2-x.2).toNat) ?_ _ _ ⟨by simp,by simp,by simp⟩ (by simp only[fuel];omega)
 rintro ⟨z,i⟩ rec ⟨i1,i2,i3⟩ ih
 simp only at i1 i2 i3 ⊢
 refine Ret_dec (fun hlt=>?_) fun hge=>?_
 ·rcases(by omega:i=0∨i=1) with rfl | rfl
  ·rw[if_pos rfl] at i3
   refine Ret_chk (inb_t (by omega) (by omega)) ?_
   show Ret (chk (i64b (z+ ((A.length:Nat):Int))) _) _
   refine Ret_chk (i64b_t (by omega) (by omega)) (Ret_dec (fun g=>?_) fun g=>Ret_chk (by rfl) (ih _ ⟨by simp,by simp,?_⟩ (by simp)))
   ·change z+ ((A.length:Nat):Int)<0 at g
    omega
   ·show z+ ((A.length:Nat):Int)=if(1:Int)=0 then 0 else if(1:Int)=1 then(A.length:Int) else _
    rw[if_neg (by omega),if_pos rfl];omega
  ·rw[if_neg (by omega),if_pos rfl] at i3
   refine Ret_chk (inb_t (by omega) (by omega)) ?_
   show Ret (chk (i64b (z+ ((B.length:Nat):Int))) _) _
   refine Ret_chk (i64b_t (by omega) (by omega)) (Ret_dec (fun g=>?_) fun g=>Ret_chk (by rfl) (ih _ ⟨by simp,by simp,?_⟩ (by simp)))
   ·change z+ ((B.length:Nat):Int)<0 at g
    omega
   ·show z+ ((B.length:Nat):Int)=if(2:Int)=0 then 0 else if(2:Int)=1 then(A.length:Int) else _
    rw[if_neg (by omega),if_neg (by omega)];omega
 ·rw[show i=2 by omega,if_neg (by omega),if_neg (by omega)] at i3
  unfold slices_Grow_api_Kind
  rw[inb_t (by simp only;omega) (by simp only;omega),cond_true,Option.bind_some]
  refine Ret_loop (Inv:=fun x:List Int×Int=>0≤x.2∧x.2≤2∧x.1=if x.2=0 then [] else if x.2=1 then A else A++B) (m:=fun x=>(2-x.2).toNat) ?_ _ _ ⟨by simp,by simp,by simp⟩ (by simp only[fuel];omega)
  rintro ⟨L,k⟩ rec2 ⟨j1,j2,j3⟩ ih2
  simp only at j1 j2 j3 ⊢
  refine Ret_dec (fun hlt2=>?_) fun hge2=>Ret_some (by rw[j3,if_neg (by omega),if_neg (by omega)])
  rcases(by omega:k=0∨k=1) with rfl | rfl
  ·rw[if_pos rfl] at j3
   subst j3
   refine Ret_chk (inb_t (by omega) (by omega)) ?_
   show Ret (chk (lenOk (([]:List Int).length+A.length)) (chk _ (rec2 ([]++A,_)))) _
   exact Ret_chk (lenOk_t (by simp;omega)) (Ret_chk (by rfl) (ih2 _ ⟨by simp,by simp,by simp⟩ (by simp)))
  ·rw[if_neg (by omega),if_pos rfl] at j3
   subst j3
   refine Ret_chk (inb_t (by omega) (by omega)) ?_
   show Ret (chk (lenOk (L.length+B.length)) (chk _ (rec2 (L++B,_)))) _
   exact Ret_chk (lenOk_t (by omega)) (Ret_chk (by rfl) (ih2 _ ⟨by simp,by simp,by simp⟩ (by simp)))
theorem rings_begun_api_Kind_ok {L:List Int} {k:Int} (hL:L.length≤1000) (h0:0≤k) (h1:k≤L.length):rings_begun_api_Kind fuel (L,k)=some (L.drop k.toNat++L.take k.toNat):=by
 unfold rings_begun_api_Kind
 simp only
 have e1:((L.drop k.toNat).take (L.length-k.toNat))=L.drop k.toNat:=List.take_of_length_le (by simp)
 rw[chk_t (by simp[bnb];omega),chk_t (by simp[bnb];omega),e1,List.drop_zero,slices_Concat_api_Kind_ok (by simp;omega) (by simp;omega),Option.bind_some]
 generalize L.drop k.toNat++L.take k.toNat=M
 rw[chk_t (by simp[bnb]),List.take_of_length_le (Nat.le_refl _),chk_t (by simp[capIs])]
def rotL (L:List Int) (k:Nat):List Int:=L.drop k++L.take k
theorem rotL_len {L:List Int} {k:Nat} (h:k≤L.length):(rotL L k).length=L.length:=by simp[rotL];omega
theorem rotL_getD {L:List Int} {k i:Nat} (h:k<L.length) (hi:i<L.length):(rotL L k).getD i 0=L.getD (rot L.length k i) 0:=by
 unfold rotL rot
 rw[List.getD,List.getD]
 by_cases c:k+i<L.length
 ·rw[if_pos c,List.getElem?_append_left (by simp;omega),List.getElem?_drop]
 ·rw[if_neg c,List.getElem?_append_right (by simp;omega),List.getElem?_take,if_pos (by simp;omega),List.length_drop]
  congr 2
  omega
theorem rotL_mem {L:List Int} {k:Nat} {x:Int}:x∈rotL L k↔x∈L:=by
 rw[rotL,List.mem_append,or_comm,←List.mem_append,List.take_append_drop]
theorem eR_rot {L:List Int} {k:Nat} (hk:k<L.length) (e:k%2=0) (en:L.length%2=0) (hc:eR L L.length=0):∀i,i≤L.length→eR (rotL L k) i=eR L (rot L.length k i)-eR L k
 | 0,_=>by
   rw[show rot L.length k 0=k by unfold rot;rw[if_pos (by omega)];rfl]
   show(0:Int)=_
   omega
 | i+1,hi=>by
   have ih:=eR_rot hk e en hc i (by omega)
   have g:=rotL_getD hk (i:=i) (by omega)
   have rl:=rot_lt (n:=L.length) hk (k:=i) (by omega)
   have rp:(rot L.length k i)%2=i%2:=by unfold rot;split<;>omega
   have st:eR L (rot L.length k (i+1))=eR L (rot L.length k i+1):=by
    unfold rot
    by_cases c:k+i<L.length
    ·rw[if_pos c]
     by_cases c2:k+ (i+1)<L.length
     ·rw[if_pos c2];rfl
     ·rw[if_neg c2,show k+ (i+1)-L.length=0 by omega,show k+i+1=L.length by omega,hc];rfl
    ·rw[if_neg c,if_neg (by omega)]
     congr 1
     omega
   rw[st]
   rcases Nat.mod_two_eq_zero_or_one i with c | c
   ·rw[eR_even c,eR_even (i:=rot L.length k i) (by omega),ih,g];omega
   ·rw[eR_odd c,eR_odd (i:=rot L.length k i) (by omega),ih,g];omega
def turnR (s:List Int×List Int) (k:Nat):List Int×List Int:=(rotL s.1 k,rotL s.2 k)
theorem RValid.turn {s:List Int×List Int} (h:RValid s) {k:Nat} (hk:k<s.1.length) (e:k%2=0):RValid (turnR s k):=by
 have hkl:=h.kl
 have l1:(turnR s k).1.length=s.1.length:=rotL_len (by omega)
 have l2:(turnR s k).2.length=s.2.length:=rotL_len (by omega)
 refine⟨by rw[l1];exact h.le,by rw[l1];exact h.two,by rw[l1];exact h.even,by rw[l1,l2];exact hkl,fun x hx=>h.lens x (rotL_mem.1 hx),fun x hx=>h.kinds x (rotL_mem.1 hx),?_⟩
 rw[l1]
 show eR (rotL s.1 k) s.1.length=0
 rw[eR_rot hk e h.even h.closed _ (Nat.le_refl _),show rot s.1.length k s.1.length=k by unfold rot;rw[if_neg (by omega)];omega]
 omega
structure RIso (E E':List Int) (n:Nat) (f f' τ:Int→Int) (c:Int):Prop where
 rng:∀i:Int,0≤i→i<n→0≤τ i∧τ i<n
 inj:∀i j:Int,0≤i→i<n→0≤j→j<n→τ i=τ j→i=j
 sc:∀i:Int,0≤i→i<n→sc n (τ i)=τ (sc n i)
 a:∀i:Int,0≤i→i<n→E'.getD i.toNat 0=E.getD (τ i).toNat 0-c
 b:∀i:Int,0≤i→i<n→E'.getD (i.toNat+1) 0=E.getD ((τ i).toNat+1) 0-c
 f:∀i:Int,0≤i→i<n→f' i=f (τ i)
section
variable {E E':List Int} {n:Nat} {f f' τ:Int→Int} {c:Int} (h:RIso E E' n f f' τ c)
include h
theorem RIso.bet {i x:Int} (i0:0≤i) (i1:i<n) (x0:0≤x) (x1:x<n):BetR n f' i x↔BetR n f (τ i) (τ x):=by
 have s0:0≤X.sc n i∧X.sc n i<n:=by unfold X.sc;split<;>omega
 unfold BetR
 rw[h.f i i0 i1,h.f x x0 x1,h.f _ s0.1 s0.2,h.sc i i0 i1]
theorem RIso.cross (hc:CrossR E' n f'):CrossR E n f:=by
 obtain⟨i,i0,i1,hc⟩:=hc
 have ri:=h.rng i i0 i1
 have ai:=h.a i i0 i1;have bi:=h.b i i0 i1
 refine⟨τ i,ri.1,ri.2,?_⟩
 rcases hc with⟨j,j0,j1,e1,e2,e3⟩ | ⟨j,j0,j1,e1,e2,e3,e5⟩
 ·have rj:=h.rng j j0 j1
  have aj:=h.a j j0 j1;have bj:=h.b j j0 j1
  refine .inl ⟨τ j,rj.1,rj.2,?_,?_,(h.bet i0 i1 j0 j1).1 e3⟩
  ·unfold frm at *;omega
  ·unfold too at *;omega
 ·have rj:=h.rng j j0 j1
  have aj:=h.a j j0 j1;have bj:=h.b j j0 j1
  have s0:0≤X.sc n j∧X.sc n j<n:=by unfold X.sc;split<;>omega
  refine .inr ⟨τ j,rj.1,rj.2,fun e=>e1 (h.inj _ _ j0 j1 i0 i1 e),by omega,by omega,?_⟩
  rw[←h.bet i0 i1 j0 j1,h.sc j j0 j1,←h.bet i0 i1 s0.1 s0.2]
  exact e5
theorem RIso.wrong {K K':List Int} (hK:∀i:Int,0≤i→i<n→K'.getD i.toNat 0=K.getD (τ i).toNat 0∧(τ i)%2=i%2) (hw:WrongR K' n f'):WrongR K n f:=by
 obtain⟨i,i0,i1,e1,e2⟩:=hw
 have ri:=h.rng i i0 i1
 have hk:=hK i i0 i1
 have s0:0≤X.sc n i∧X.sc n i<n:=by unfold X.sc;split<;>omega
 refine⟨τ i,ri.1,ri.2,by rw[←hk.1];exact e1,?_⟩
 rw[←hk.1]
 refine fun e=>e2 (e.trans ?_)
 unfold kindR
 rw[hk.2,h.sc i i0 i1,h.f i i0 i1,h.f _ s0.1 s0.2]
theorem RIso.ovl {i j:Int} (i0:0≤i) (i1:i<n) (j0:0≤j) (j1:j<n):ovl E' i.toNat j.toNat=X.ovl E (τ i).toNat (τ j).toNat:=by
 have ai:=h.a i i0 i1;have bi:=h.b i i0 i1
 have aj:=h.a j j0 j1;have bj:=h.b j j0 j1
 rw[Bool.eq_iff_iff,ovl_t,ovl_t]
 unfold frm too
 omega
end
def tauR (n k:Nat) (i:Int):Int:=if i+k<n then i+k else i+k-n
def rhoR (n k:Nat) (x:Int):Int:=if(k:Int)≤x then x-k else x-k+n
theorem tau_rho {n k:Nat} (hk:k<n) {x:Int} (h0:0≤x) (h1:x<n):tauR n k (rhoR n k x)=x∧0≤rhoR n k x∧rhoR n k x<n:=by
 unfold rhoR tauR;split<;>(split<;>omega)
theorem rho_tau {n k:Nat} (hk:k<n) {x:Int} (h0:0≤x) (h1:x<n):rhoR n k (tauR n k x)=x∧0≤tauR n k x∧tauR n k x<n:=by
 unfold rhoR tauR;split<;>(split<;>omega)
theorem rkF_map {n:Nat} {p:List Int} (hp:Ord n p) {ρ τ:Int→Int} (h1:∀x:Int,0≤x→x<n→ρ (τ x)=x∧0≤τ x∧τ x<n):Ord n (p.map ρ)∧∀x:Int,0≤x→x<n→rkF (p.map ρ) x=rkF p (τ x):=by
 have ho:Ord n (p.map ρ):=ord_of (by rw[List.length_map,hp.len]) fun i hi=>by
  have:=h1 i (by omega) (by omega)
  exact List.mem_map.2 ⟨τ i,hp.memI this.2.1 this.2.2,this.1⟩
 refine⟨ho,fun x x0 x1=>?_⟩
 have hx:=h1 x x0 x1
 obtain⟨a,b,c⟩:=at_rkF (hp.memI hx.2.1 hx.2.2)
 have:=rkF_at ho.nodup (i:=(rkF p (τ x)).toNat) (by rw[List.length_map];exact a)
 rw[List.getD,List.getElem?_map,List.getElem?_eq_getElem a] at this
 rw[List.getD,List.getElem?_eq_getElem a] at b
 simp only[Option.map_some,Option.getD_some] at this b
 rw[b,hx.1] at this
 omega
theorem turn_iso {s:List Int×List Int} (h:RValid s) {k:Nat} (hk:k<s.1.length) (e:k%2=0) {p:List Int} (hp:Ord s.1.length p):
  RIso (endR s.1) (endR (turnR s k).1) s.1.length (rkF p) (rkF (p.map (rhoR s.1.length k))) (tauR s.1.length k) (eR s.1 k):=by
 have hn:=h.two
 have l1:(turnR s k).1.length=s.1.length:=rotL_len (by omega)
 have re:∀i,i≤s.1.length→(endR (turnR s k).1).getD i 0=eR s.1 (rot s.1.length k i)-eR s.1 k:=fun i hi=>by
  rw[endR_getD (by omega)]
  exact eR_rot hk e h.even h.closed i hi
 have tn:∀i:Int,0≤i→i<s.1.length→(tauR s.1.length k i).toNat=rot s.1.length k i.toNat:=fun i a b=>by
  unfold tauR rot
  split<;>split<;>omega
 refine⟨fun i i0 i1=>(rho_tau hk i0 i1).2,fun i j i0 i1 j0 j1 ee=>?_,fun i i0 i1=>?_,fun i i0 i1=>?_,fun i i0 i1=>?_,(rkF_map hp fun x x0 x1=>rho_tau hk x0 x1).2⟩
 ·rw[←(rho_tau hk i0 i1).1,←(rho_tau hk j0 j1).1,ee]
 ·unfold tauR sc
  split<;>split<;>split<;>omega
 ·rw[re _ (by omega),tn i i0 i1,endR_getD (by have:=rot_lt (n:=s.1.length) hk (k:=i.toNat) (by omega);omega)]
 ·rw[re _ (by omega),tn i i0 i1,endR_getD (by have:=rot_lt (n:=s.1.length) hk (k:=i.toNat) (by omega);omega)]
  congr 1
  unfold rot
  by_cases c:k+i.toNat<s.1.length
  ·rw[if_pos c]
   by_cases c2:k+ (i.toNat+1)<s.1.length
   ·rw[if_pos c2];rfl
   ·rw[if_neg c2,show k+ (i.toNat+1)-s.1.length=0 by omega,show k+i.toNat+1=s.1.length by omega,h.closed];rfl
  ·rw[if_neg c,if_neg (by omega)]
   congr 1
   omega
theorem VPile.turn {s:List Int×List Int} (h:RValid s) {k:Nat} (hk:k<s.1.length) (e:k%2=0) {p:List Int} (hp:VPile s p):VPile (turnR s k) (p.map (rhoR s.1.length k)):=by
 have hkl:=h.kl
 have hn:=h.even
 have l1:(turnR s k).1.length=s.1.length:=rotL_len (by omega)
 have io:=turn_iso h hk e hp.ord
 refine⟨by rw[l1];exact(rkF_map hp.ord fun x x0 x1=>rho_tau hk x0 x1).1,(fun c=>hp.nc (io.cross (by rw[l1] at c;exact c))),(fun c=>hp.nw (io.wrong (fun i i0 i1=>?_) (by rw[l1] at c;exact c)))⟩
 constructor
 ·show(rotL s.2 k).getD i.toNat 0=_
  rw[rotL_getD (by omega) (by omega),hkl]
  congr 1
  unfold tauR rot
  split<;>split<;>omega
 ·unfold tauR;split<;>omega
theorem ways_le {s t:List Int×List Int} (hs:RValid s) (ht:RValid t) (hn:t.1.length=s.1.length) {φ:List Int→List Int} (h1:∀p,VPile s p→VPile t (φ p))
  (h2:∀p q,Ord s.1.length p→Ord s.1.length q→SameP (endR t.1) s.1.length (φ p) (φ q)→SameP (endR s.1) s.1.length p q) {L M:List (List Int)} (hL:WaysL s L) (hM:WaysL t M):L.length≤M.length:=by
 classical
 have ex:∀p,VPile s p→∃l:List Int,l.length=t.1.length∧Greedy (endR t.1) t.1.length (φ p) l:=fun p hp=>by
  obtain⟨l,_,a,b⟩:=rings_folded_least_ok ht (h1 p hp).ord
  exact⟨l,a,b⟩
 let g:List Int→List Int:=fun p=>if h:VPile s p then Classical.choose (ex p h) else []
 have hg:∀p (h:VPile s p),(g p).length=t.1.length∧Greedy (endR t.1) t.1.length (φ p) (g p):=fun p h=>by
  have:=Classical.choose_spec (ex p h)
  simp only[g,dif_pos h]
  exact this
 rw[←List.length_map (f:=g)]
 refine len_of_sub ?_ fun l hl=>?_
 ·rw[List.Nodup,List.pairwise_map]
  have:L.Pairwise fun a b=>a∈L∧b∈L∧cmpI a b<0:=by
   rw[List.pairwise_iff_getElem]
   intro i j hi hj hij
   exact⟨List.getElem_mem _,List.getElem_mem _,List.pairwise_iff_getElem.1 hL.srt i j hi hj hij⟩
  refine this.imp fun {a b} ⟨ha,hb,hab⟩ e=>?_
  have wa:=(hL.mem a).1 ha
  have wb:=(hL.mem b).1 hb
  obtain⟨a1,a2⟩:=hg a wa.vp
  obtain⟨b1,b2⟩:=hg b wb.vp
  have sa:=a2.same (h1 a wa.vp).ord a1
  have sb:=b2.same (h1 b wb.vp).ord b1
  rw[e] at sa
  rw[hn] at sa sb
  have sab:=h2 a b wa.vp.ord wb.vp.ord (sa.tr sb.sy)
  have:=wa.gr.unique wb.gr wa.vp.ord wb.vp.ord wa.vp.ord.len wb.vp.ord.len sab
  rw[this,cmpI_self] at hab
  omega
 ·obtain⟨p,hp,rfl⟩:=List.mem_map.1 hl
  have wp:=(hL.mem p).1 hp
  obtain⟨a1,a2⟩:=hg p wp.vp
  exact(hM.mem _).2 (way_of ht (h1 p wp.vp) a1 a2)
theorem turn_le {s:List Int×List Int} (h:RValid s) {k:Nat} (hk:k<s.1.length) (e:k%2=0) {L M:List (List Int)} (hL:WaysL s L) (hM:WaysL (turnR s k) M):L.length≤M.length:=by
 have l1:(turnR s k).1.length=s.1.length:=rotL_len (by omega)
 refine ways_le h (h.turn hk e) l1 (φ:=fun p=>p.map (rhoR s.1.length k)) (fun p hp=>hp.turn h hk e) (fun p q hp hq hs i j h0 h1 h2 ho=>?_) hL hM
 have ip:=turn_iso h hk e hp
 have iq:=turn_iso h hk e hq
 obtain⟨t1,t2,t3⟩:=tau_rho hk (x:=i) (by omega) h2
 obtain⟨u1,u2,u3⟩:=tau_rho hk (x:=j) h0 (by omega)
 have op:=(rkF_map hp fun x x0 x1=>rho_tau (k:=k) hk x0 x1)
 have oq:=(rkF_map hq fun x x0 x1=>rho_tau (k:=k) hk x0 x1)
 have:=hs.all op.1 oq.1 t2 t3 u2 u3 (by rw[ip.ovl t2 t3 u2 u3,t1,u1];exact ho)
 rw[op.2 _ t2 t3,op.2 _ u2 u3,oq.2 _ t2 t3,oq.2 _ u2 u3,t1,u1] at this
 exact this
theorem rotL_zero (L:List Int):rotL L 0=L:=by simp[rotL]
theorem rotL_back {L:List Int} {k:Nat} (h:k≤L.length):rotL (rotL L k) (L.length-k)=L:=by
 unfold rotL
 rw[List.drop_left' (by simp),List.take_left' (by simp),List.take_append_drop]
theorem turn_count {s:List Int×List Int} (h:RValid s) {k:Nat} (hk:k<s.1.length) (e:k%2=0) {L M:List (List Int)} (hL:WaysL s L) (hM:WaysL (turnR s k) M):L.length=M.length:=by
 have hkl:=h.kl
 have he:=h.even
 refine Nat.le_antisymm (turn_le h hk e hL hM) ?_
 by_cases k0:k=0
 ·subst k0
  have:turnR s 0=s:=by unfold turnR;rw[rotL_zero,rotL_zero]
  rw[this] at hM
  rw[srt_ext hM.srt hL.srt fun x=>(hM.mem x).trans (hL.mem x).symm]
  exact Nat.le_refl _
 ·have l1:(turnR s k).1.length=s.1.length:=rotL_len (by omega)
  have back:turnR (turnR s k) (s.1.length-k)=s:=by
   unfold turnR
   simp only
   rw[rotL_back (by omega),←hkl,rotL_back (by omega)]
  have:=turn_le (h.turn hk e) (k:=s.1.length-k) (by omega) (by omega) hM (M:=L) (by rw[back];exact hL)
  exact this
def ovK (x:Int):Int:=if x=3 then 3 else 3-x
def overR (s:List Int×List Int):List Int×List Int:=(s.1,s.2.map ovK)
theorem ovK_ok {x:Int} (h:1≤x∧x≤3):(1≤ovK x∧ovK x≤3)∧ovK (ovK x)=x∧(ovK x=3↔x=3):=by unfold ovK;split<;>split<;>omega
theorem RValid.over {s:List Int×List Int} (h:RValid s):RValid (overR s):=
 ⟨h.le,h.two,h.even,by simp only[overR,List.length_map];exact h.kl,h.lens,(fun x hx=>by obtain⟨y,hy,rfl⟩:=List.mem_map.1 hx;exact(ovK_ok (h.kinds y hy)).1),h.closed⟩
theorem overR_over {s:List Int×List Int} (h:RValid s):overR (overR s)=s:=by
 unfold overR
 simp only[List.map_map]
 refine Prod.ext rfl ?_
 conv=>rhs;rw[←List.map_id s.2]
 exact List.map_congr_left fun x hx=>(ovK_ok (h.kinds x hx)).2.1
theorem rkF_rev {n:Nat} {p:List Int} (hp:Ord n p):Ord n p.reverse∧∀x:Int,0≤x→x<n→rkF p.reverse x=n-1-rkF p x:=by
 have ho:Ord n p.reverse:=(List.reverse_perm p).trans hp
 refine⟨ho,fun x x0 x1=>?_⟩
 obtain⟨a,b,c⟩:=at_rkF (hp.memI x0 x1)
 have hl:=hp.len
 have:=rkF_at ho.nodup (i:=n-1-(rkF p x).toNat) (by rw[List.length_reverse];omega)
 rw[List.getD,List.getElem?_reverse (by omega),show p.length-1-(n-1-(rkF p x).toNat)=(rkF p x).toNat by omega] at this
 rw[List.getD] at b
 rw[b] at this
 omega
theorem VPile.over {s:List Int×List Int} (h:RValid s) {p:List Int} (hp:VPile s p):VPile (overR s) p.reverse:=by
 obtain⟨ho,hr⟩:=rkF_rev hp.ord
 have hkl:=h.kl
 have ss:∀j:Int,0≤j→j<s.1.length→0≤sc s.1.length j∧sc s.1.length j<s.1.length:=fun j a b=>by unfold sc;split<;>omega
 have bet:∀i x:Int,0≤i→i<s.1.length→0≤x→x<s.1.length→(BetR s.1.length (rkF p.reverse) i x↔BetR s.1.length (rkF p) i x):=fun i x i0 i1 x0 x1=>by
  unfold BetR
  rw[hr i i0 i1,hr x x0 x1,hr _ (ss i i0 i1).1 (ss i i0 i1).2]
  omega
 refine⟨ho,(fun c=>hp.nc ?_),(fun c=>hp.nw ?_)⟩
 ·obtain⟨i,i0,i1,hc⟩:=c
  refine⟨i,i0,i1,?_⟩
  rcases hc with⟨j,j0,j1,e1,e2,e3⟩ | ⟨j,j0,j1,e1,e2,e3,e5⟩
  ·exact .inl ⟨j,j0,j1,e1,e2,(bet i j i0 i1 j0 j1).1 e3⟩
  ·refine .inr ⟨j,j0,j1,e1,e2,e3,?_⟩
   rw[←bet i j i0 i1 j0 j1,←bet i _ i0 i1 (ss j j0 j1).1 (ss j j0 j1).2]
   exact e5
 ·obtain⟨i,i0,i1,e1,e2⟩:=c
  change 0≤i at i0
  change i<s.1.length at i1
  have gk:(s.2.map ovK).getD i.toNat 0=ovK (s.2.getD i.toNat 0):=by
   rw[List.getD,List.getD,List.getElem?_map,List.getElem?_eq_getElem (by omega)]
   rfl
  have hk:=h.kinds _ (getD_mem (L:=s.2) (i:=i.toNat) (by omega))
  have:=ovK_ok hk
  change (s.2.map ovK).getD i.toNat 0≠3 at e1
  change (s.2.map ovK).getD i.toNat 0≠kindR s.1.length (rkF p.reverse) i at e2
  rw[gk] at e1 e2
  have si:=ss i i0 i1
  have hne:rkF p i≠rkF p (sc s.1.length i):=fun ee=>by
   have:=rkF_inj (hp.ord.memI i0 i1) (hp.ord.memI si.1 si.2) ee
   have:=(h.ends.sc_lt i0 i1).2.2.1
   omega
  refine⟨i,i0,i1,fun g=>e1 (this.2.2.2 g),fun g=>e2 ?_⟩
  unfold kindR at g ⊢
  rw[hr i i0 i1,hr _ si.1 si.2]
  have k3:s.2.getD i.toNat 0≠3:=fun g=>e1 (this.2.2.2 g)
  rw[ovK,if_neg k3]
  by_cases c:i%2=0
  ·rw[if_pos c] at g ⊢
   by_cases d:rkF p i<rkF p (sc s.1.length i)
   ·rw[if_pos d] at g;rw[if_neg (by omega)];omega
   ·rw[if_neg d] at g;rw[if_pos (by omega)];omega
  ·rw[if_neg c] at g ⊢
   by_cases d:rkF p (sc s.1.length i)<rkF p i
   ·rw[if_pos d] at g;rw[if_neg (by omega)];omega
   ·rw[if_neg d] at g;rw[if_pos (by omega)];omega
theorem over_le {s:List Int×List Int} (h:RValid s) {L M:List (List Int)} (hL:WaysL s L) (hM:WaysL (overR s) M):L.length≤M.length:=by
 refine ways_le h h.over rfl (φ:=List.reverse) (fun p hp=>hp.over h) (fun p q hp hq hs i j h0 h1 h2 ho=>?_) hL hM
 obtain⟨op,rp⟩:=rkF_rev hp
 obtain⟨oq,rq⟩:=rkF_rev hq
 have:=hs.all op oq (i:=j) (k:=i) h0 (by omega) (by omega) h2 (by rw[ovl_symm];exact ho)
 rw[rp i (by omega) h2,rp j h0 (by omega),rq i (by omega) h2,rq j h0 (by omega)] at this
 omega
theorem over_count {s:List Int×List Int} (h:RValid s) {L M:List (List Int)} (hL:WaysL s L) (hM:WaysL (overR s) M):L.length=M.length:=
 Nat.le_antisymm (over_le h hL hM) (over_le h.over hM (by rw[overR_over h];exact hL))
end X
end Go.Vm
namespace Go.Vm
namespace X
open W Go.Proofs.St
theorem rings_Turn_ok {s:List Int×List Int} (h:RValid s) {by_:Int}:rings_Turn fuel (s,by_)=some (if 0≤by_∧by_<s.1.length∧by_%2=0 then(turnR s by_.toNat,0) else(([],[]),1)):=by
 have hn:=h.le
 have hkl:=h.kl
 apply Ret.eq
 unfold rings_Turn
 rw[show rings_Check fuel (s.1,s.2)=some 0 from rings_Check_ok h,Option.bind_some]
 refine Ret_dec (fun g=>absurd rfl g) fun _=>?_
 refine Ret_dec (fun g=>Ret_some (by rw[if_neg (by simp only at g;omega)])) fun g=>?_
 refine Ret_dec (fun g2=>Ret_some (by rw[if_neg (by simp only at g2;omega)])) fun g2=>?_
 simp only at g g2
 refine Ret_chk (by simp;omega) (Ret_dec (fun g3=>Ret_some (by rw[if_neg (by simp only at g3;omega)])) fun g3=>?_)
 simp only at g3 ⊢
 rw[rings_begun_int_ok (by omega) (by omega) (by omega),Option.bind_some,rings_begun_api_Kind_ok (by omega) (by omega) (by omega),Option.bind_some,if_pos (by omega)]
 exact Ret_chk (by simp[capIs]) (Ret_some rfl)
theorem rings_Open_ok {s:List Int×List Int} (h:RValid s) {by_:Int}:rings_Open fuel (s,by_)=some (if 0≤by_∧by_<s.1.length then((rotL s.1 (sc s.1.length by_).toNat,(rotL s.2 (sc s.1.length by_).toNat).take (s.1.length-1)),0) else(([],[]),1)):=by
 have hn:=h.le
 have h2:=h.two
 have hkl:=h.kl
 apply Ret.eq
 unfold rings_Open
 rw[show rings_Check fuel (s.1,s.2)=some 0 from rings_Check_ok h,Option.bind_some]
 refine Ret_dec (fun g=>absurd rfl g) fun _=>?_
 refine Ret_dec (fun g=>Ret_some (by rw[if_neg (by simp only at g;omega)])) fun g=>?_
 refine Ret_dec (fun g2=>Ret_some (by rw[if_neg (by simp only at g2;omega)])) fun g2=>?_
 simp only at g g2 ⊢
 obtain⟨s0,s1,_,_⟩:=h.ends.sc_lt (i:=by_) (by omega) (by omega)
 rw[show rings_of fuel (s.1,s.2)=_ from rings_of_ok h,Option.bind_some,show rings_folded_behind fuel (((s.1,s.2),endR s.1),by_)=some (sc s.1.length by_) from rings_behind_ok hn (by omega) (by omega),Option.bind_some,
  rings_begun_int_ok (by omega) s0 (by omega),Option.bind_some,rings_begun_api_Kind_ok (by omega) s0 (by omega),Option.bind_some,if_pos (by omega)]
 have l2:(s.2.drop (sc s.1.length by_).toNat++s.2.take (sc s.1.length by_).toNat).length=s.2.length:=rotL_len (L:=s.2) (by omega)
 have e1:((s.2.length:Nat):Int)-1=((s.1.length-1:Nat):Int):=by omega
 rw[e1]
 refine Ret_chk (i64b_t (by omega) (by omega)) (Ret_chk (by rw[l2];simp[bnb];omega) (Ret_chk (by simp[bnb]) ?_))
 rw[Int.toNat_natCast]
 refine Ret_chk ?_ (Ret_some rfl)
 simp only[capIs,List.length_take,l2]
 simp
 omega
theorem getD_map {L:List Int} {g:Int→Int} {i:Nat} (h:i<L.length):(L.map g).getD i 0=g (L.getD i 0):=by
 rw[List.getD,List.getD,List.getElem?_map,List.getElem?_eq_getElem h];rfl
theorem rings_Over_ok {s:List Int×List Int} (h:RValid s):rings_Over fuel s=some (overR s):=by
 have hn:=h.le
 have hkl:=h.kl
 apply Ret.eq
 unfold rings_Over slices_Clone_int slices_Clone_api_Kind
 rw[chk_t (lenOk_t (by omega)),Option.bind_some,List.nil_append]
 refine Ret_chk (by simp[bnb]) ?_
 rw[chk_t (lenOk_t (by omega)),Option.bind_some,List.nil_append]
 refine Ret_chk (by simp[bnb]) ?_
 refine Ret_loop (Inv:=fun x:Int×(List Int×Option Nat)=>0≤x.1∧x.1≤s.2.length∧x.2.1.length=s.2.length∧x.2.2=none∧∀k:Nat,k<s.2.length→x.2.1.getD k 0=if(k:Int)<x.1 then ovK (s.2.getD k 0) else s.2.getD k 0) (m:=fun x=>((s.2.length:Int)-x.1).toNat) ?_ _ _ ⟨by simp,by simp,rfl,rfl,fun k hk=>by rw[if_neg (by simp only;omega)]⟩ (by simp only[fuel];omega)
 rintro ⟨i,K,cp⟩ rec ⟨i1,i2,i3,i4,i5⟩ ih
 simp only at i1 i2 i3 i4 i5 ⊢
 subst i4
 refine Ret_dec (fun hlt=>?_) fun hge=>?_
 ·have hin:=inb_t (i:=i) (n:=s.2.length) (by omega) (by omega)
  have hx:=h.kinds _ (getD_mem (L:=s.2) (i:=i.toNat) (by omega))
  have hv:=i5 i.toNat (by omega)
  rw[if_neg (by omega)] at hv
  rw[Nat.zero_add]
  rw[hv]
  have nxt:∀K':List Int,K'.length=s.2.length→(∀k:Nat,k<s.2.length→K'.getD k 0=if k=i.toNat then ovK (s.2.getD i.toNat 0) else K.getD k 0)→Ret (chk (i64b (i+1)) (rec (i+1,(K',none)))) (fun x=>x=overR s):=fun K' l1 l2=>by
   refine Ret_chk (i64b_t (by omega) (by omega)) (ih _ ⟨by simp only;omega,by simp only;omega,l1,rfl,fun k hk=>?_⟩ (by simp only;omega))
   simp only
   rw[l2 k hk]
   by_cases e:k=i.toNat
   ·subst e;rw[if_pos rfl,if_pos (by omega)]
   ·rw[if_neg e,i5 k hk]
    by_cases e2:(k:Int)<i
    ·rw[if_pos e2,if_pos (by omega)]
    ·rw[if_neg e2,if_neg (by omega)]
  refine Ret_chk hin (Ret_dec (fun g=>?_) fun g=>Ret_dec (fun g2=>?_) fun g2=>?_)
  ·refine Ret_chk hin (nxt _ (by rw[List.length_set];exact i3) fun k hk=>?_)
   rw[getD_set (by omega)]
   split
   ·rw[g];rfl
   ·rfl
  ·refine Ret_chk hin (nxt _ (by rw[List.length_set];exact i3) fun k hk=>?_)
   rw[getD_set (by omega)]
   split
   ·rw[g2];rfl
   ·rfl
  ·refine nxt _ i3 fun k hk=>?_
   split
   ·next e=>
    subst e
    rw[hv,show s.2.getD i.toNat 0=3 by omega];rfl
   ·rfl
 ·have eK:K=s.2.map ovK:=ext_getD (by rw[List.length_map];exact i3) fun k hk=>by
   rw[getD_map (by omega),i5 k (by omega),if_pos (by omega)]
  refine Ret_chk ?_ (Ret_some ?_)
  ·rw[List.take_of_length_le (Nat.le_refl _),List.take_of_length_le (by omega)]
   simp[capIs,i3]
  ·rw[List.take_of_length_le (Nat.le_refl _),List.take_of_length_le (by omega),eK];rfl
theorem mod_rot {n:Nat} {a i:Int} (h0:0≤a) (h1:a≤n) (h2:0≤i) (h3:i<n) (hn:0<n):(a+i)% ((n:Nat):Int)=(rot n a.toNat i.toNat:Nat):=by
 unfold rot
 by_cases c:a+i<n
 ·rw[Int.emod_eq_of_lt (by omega) c,if_pos (by omega)];omega
 ·rw[show a+i=(a+i-n)+n*1 by omega,Int.add_mul_emod_self_left,Int.emod_eq_of_lt (by omega) (by omega),if_neg (by omega)];omega
theorem sc_rot {n:Nat} {a i:Int} (h0:0≤a) (h1:a<n) (h2:0≤i) (h3:i<n):rot n (sc n a).toNat i.toNat=rot n (a+1).toNat i.toNat:=by
 unfold sc rot
 repeat' split
 all_goals omega
set_option maxRecDepth 100000 in
set_option maxHeartbeats 2000000 in
theorem law22_RingsTurn_true {a0 a1:List Int} {l by_:Int} (h0:bytes a0) (h1:bytes a1) (hl:0≤l∧l≤255) (hb: -9223372036854775808≤by_∧by_≤9223372036854775807):law22_RingsTurn fuel (((a0,a1),(l,())),by_)=some true:=by
 apply Ret.eq
 unfold law22_RingsTurn
 refine Ret_bind (law22_N_Of_ok (a:=((a0,a1),(l,()))) h0 h1 hl) fun s ⟨h,h8,_⟩=>?_
 have hn:=h.le
 have h2:=h.two
 have he:=h.even
 have hkl:=h.kl
 have fin:Ret ((law22_lives fuel ()).bind fun r5=>some r5) (fun x=>x=true):=by rw[lives22];exact Ret_some rfl
 simp only
 rw[show rings_Turn fuel ((s.1,s.2),by_)=_ from rings_Turn_ok h,Option.bind_some,show rings_Open fuel ((s.1,s.2),by_)=_ from rings_Open_ok h,Option.bind_some,show rings_Over fuel (s.1,s.2)=some (overR s) from rings_Over_ok h,Option.bind_some]
 refine Ret_dec (fun g=>?_) fun g=>?_
 ·rw[if_neg (by omega),if_neg (by omega)]
  refine Ret_dec (fun _=>?_) fun g=>absurd rfl g
  refine Ret_dec (fun _=>?_) fun g=>absurd rfl g
  exact Ret_chk (by rfl) (Ret_dec (fun _=>fin) fun g=>absurd rfl g)
 refine Ret_dec (fun g2=>?_) fun g2=>?_
 ·rw[if_neg (by omega),if_neg (by omega)]
  refine Ret_dec (fun _=>?_) fun g=>absurd rfl g
  refine Ret_dec (fun _=>?_) fun g=>absurd rfl g
  exact Ret_chk (by rfl) (Ret_dec (fun _=>fin) fun g=>absurd rfl g)
 rw[if_pos (show 0≤by_∧by_<s.1.length by omega)]
 obtain⟨s0,s1,_,_⟩:=h.ends.sc_lt (i:=by_) (by omega) (by omega)
 have lo1:(rotL s.1 (sc s.1.length by_).toNat).length=s.1.length:=rotL_len (by omega)
 have lo2:((rotL s.2 (sc s.1.length by_).toNat).take (s.1.length-1)).length=s.1.length-1:=by rw[List.length_take,rotL_len (by omega)];omega
 have go1:∀i:Int,0≤i→i<s.1.length→(rotL s.1 (sc s.1.length by_).toNat).getD i.toNat 0=s.1.getD ((by_+1+i)% ((s.1.length:Nat):Int)).toNat 0:=fun i i0 i1=>by
  rw[rotL_getD (by omega) (by omega),mod_rot (by omega) (by omega) i0 i1 (by omega)]
  rw[Int.toNat_natCast]
  congr 1
  exact sc_rot (by omega) (by omega) i0 (by omega)
 have go2:∀i:Int,0≤i→i< (s.1.length:Int)-1→((rotL s.2 (sc s.1.length by_).toNat).take (s.1.length-1)).getD i.toNat 0=s.2.getD ((by_+1+i)% ((s.1.length:Nat):Int)).toNat 0:=fun i i0 i1=>by
  have:=rotL_getD (L:=s.2) (k:=(sc s.1.length by_).toNat) (i:=i.toNat) (by omega) (by omega)
  rw[List.getD] at this ⊢
  rw[List.getElem?_take,if_pos (by omega),this,mod_rot (by omega) (by omega) i0 (by omega) (by omega),hkl]
  rw[Int.toNat_natCast]
  congr 1
  exact sc_rot (by omega) (by omega) i0 (by omega)
 generalize rotL s.1 (sc s.1.length by_).toNat=A at lo1 go1 ⊢
 generalize (rotL s.2 (sc s.1.length by_).toNat).take (s.1.length-1)=B at lo2 go2 ⊢
 have lov:(overR s).2.length=s.1.length:=by simp only[overR,List.length_map];exact hkl
 have gov:∀i:Int,0≤i→i<s.1.length→(overR s).2.getD i.toNat 0=ovK (s.2.getD i.toNat 0):=fun i i0 i1=>getD_map (by omega)
 simp only
 refine Ret_dec (fun g=>absurd rfl g) fun _=>?_
 refine Ret_dec (fun g=>absurd (by omega) g) fun _=>?_
 refine Ret_chk (i64b_t (by omega) (by omega)) (Ret_dec (fun g=>absurd (by omega) g) fun _=>?_)
 refine Ret_dec (fun g=>absurd (by omega) g) fun _=>?_
 refine Ret_chk (i64b_t (by omega) (by omega)) (Ret_dec (fun g=>absurd (by omega) g) fun _=>?_)
 refine Ret_dec (fun g=>absurd (by omega) g) fun _=>?_
 rw[show rings_Over fuel ((overR s).1,(overR s).2)=some (overR (overR s)) from rings_Over_ok h.over,Option.bind_some,overR_over h]
 refine Ret_dec (fun g=>absurd rfl g) fun _=>?_
 refine Ret_dec (fun g=>absurd rfl g) fun _=>?_
 refine cmp_loop rfl (by omega) (fun g=>absurd rfl g) fun _=>?_
 refine Ret_dec (fun g=>absurd rfl g) fun _=>?_
 refine Ret_dec (fun g=>absurd rfl g) fun _=>?_
 refine cmp_loop rfl (by omega) (fun g=>absurd rfl g) fun _=>?_
 refine Ret_loop (Inv:=fun i:Int=>0≤i∧i≤s.1.length) (m:=fun i=>((s.1.length:Int)-i).toNat) ?_ _ _ ⟨by simp,by simp⟩ (by simp only[fuel];omega)
 rintro i rec ⟨i1,i2⟩ ih
 refine Ret_dec (fun hlt=>?_) fun hge=>?_
 ·have hk:=h.kinds _ (getD_mem (L:=s.2) (i:=i.toNat) (by omega))
  have hm0:=Int.emod_nonneg (by_+1+i) (show((s.1.length:Nat):Int)≠0 by omega)
  have hm1:=Int.emod_lt_of_pos (by_+1+i) (show(0:Int)< ((s.1.length:Nat):Int) by omega)
  have c1:=inb_t (i:=i) (n:=s.2.length) (by omega) (by omega)
  have c2:=inb_t (i:=i) (n:=A.length) (by omega) (by omega)
  have c3:=i64b_t (n:=by_+1) (by omega) (by omega)
  have c4:=i64b_t (n:=by_+1+i) (by omega) (by omega)
  have c5:(decide (0≤by_+1+i)&&decide ((0:Int)< ((s.1.length:Nat):Int)))=true:=by simp;omega
  have c6:=inb_t (i:=(by_+1+i)% ((s.1.length:Nat):Int)) (n:=s.1.length) hm0 hm1
  have c7:=i64b_t (n:=((s.1.length:Nat):Int)-1) (by omega) (by omega)
  have c9:=inb_t (i:=(by_+1+i)% ((s.1.length:Nat):Int)) (n:=s.2.length) hm0 (by omega)
  have c10:=inb_t (i:=i) (n:=(overR s).2.length) (by omega) (by omega)
  have c11:=inb_t (i:=i) (n:=(overR s).1.length) (by omega) hlt
  have c12:=inb_t (i:=i) (n:=s.1.length) (by omega) (by omega)
  have nxt:Ret (chk (i64b (i+1)) (rec (i+1))) (fun x=>x=true):=Ret_chk (i64b_t (by omega) (by omega)) (ih _ ⟨by omega,by omega⟩ (by omega))
  refine Ret_chk c1 (Ret_jn (fun x:Int=>x=ovK (s.2.getD i.toNat 0)) (fun x hx=>?_) fun j hj=>?_)
  ·subst hx
   refine Ret_chk c2 (Ret_chk c3 (Ret_chk c4 (Ret_chk c5 (Ret_chk c6 (Ret_dec (fun g=>absurd (go1 i i1 hlt) g) fun _=>Ret_chk c7 (Ret_dec (fun g3=>?_) fun g3=>?_))))))
   ·refine Ret_chk (inb_t (by omega) (by omega)) (Ret_chk c3 (Ret_chk c4 (Ret_chk c5 (Ret_chk c9 (Ret_dec (fun g=>absurd (go2 i i1 g3) g) fun _=>?_)))))
    refine Ret_chk c10 (Ret_dec (fun g=>absurd (gov i i1 hlt) g) fun _=>?_)
    exact Ret_chk c11 (Ret_chk c12 (Ret_dec (fun g=>absurd rfl g) fun _=>nxt))
   ·refine Ret_chk c10 (Ret_dec (fun g=>absurd (gov i i1 hlt) g) fun _=>?_)
    exact Ret_chk c11 (Ret_chk c12 (Ret_dec (fun g=>absurd rfl g) fun _=>nxt))
  ·refine Ret_dec (fun g=>hj _ ?_) fun g=>hj _ ?_
   ·rw[wrap_u8 (by omega) (by omega),ovK,if_neg g]
   ·rw[ovK,if_pos (Classical.not_not.1 g)];exact Classical.not_not.1 g
 ·refine Ret_chk (by simp;omega) (Ret_dec (fun g3=>?_) fun g3=>?_)
  ·rw[if_neg (by omega)]
   exact Ret_dec (fun _=>fin) fun g=>absurd rfl g
  ·rw[if_pos (by omega)]
   have lt1:(turnR s by_.toNat).1.length=s.1.length:=rotL_len (by omega)
   have lt2:(turnR s by_.toNat).2.length=s.1.length:=by rw[←hkl];exact rotL_len (by omega)
   simp only
   refine Ret_dec (fun g=>absurd rfl g) fun _=>?_
   refine Ret_dec (fun g=>absurd (by omega) g) fun _=>?_
   refine Ret_dec (fun g=>absurd (by omega) g) fun _=>?_
   refine Ret_loop (Inv:=fun i:Int=>0≤i∧i≤s.1.length) (m:=fun i=>((s.1.length:Int)-i).toNat) ?_ _ _ ⟨by simp,by simp⟩ (by simp only[fuel];omega)
   rintro i rec ⟨i1,i2⟩ ih
   refine Ret_dec (fun hlt=>?_) fun hge=>?_
   ·have hm0:=Int.emod_nonneg (by_+i) (show((s.1.length:Nat):Int)≠0 by omega)
    have hm1:=Int.emod_lt_of_pos (by_+i) (show(0:Int)< ((s.1.length:Nat):Int) by omega)
    have c4:=i64b_t (n:=by_+i) (by omega) (by omega)
    have c5:(decide (0≤by_+i)&&decide ((0:Int)< ((s.1.length:Nat):Int)))=true:=by simp;omega
    have gt1:(turnR s by_.toNat).1.getD i.toNat 0=s.1.getD ((by_+i)% ((s.1.length:Nat):Int)).toNat 0:=by
     show(rotL s.1 by_.toNat).getD i.toNat 0=_
     rw[rotL_getD (by omega) (by omega),mod_rot (by omega) (by omega) i1 hlt (by omega),Int.toNat_natCast]
    have gt2:(turnR s by_.toNat).2.getD i.toNat 0=s.2.getD ((by_+i)% ((s.1.length:Nat):Int)).toNat 0:=by
     show(rotL s.2 by_.toNat).getD i.toNat 0=_
     rw[rotL_getD (by omega) (by omega),mod_rot (by omega) (by omega) i1 hlt (by omega),Int.toNat_natCast,hkl]
    refine Ret_chk (inb_t (by omega) (by omega)) (Ret_chk c4 (Ret_chk c5 (Ret_chk (inb_t hm0 hm1) (Ret_dec (fun g=>absurd gt1 g) fun _=>?_))))
    refine Ret_chk (inb_t (by omega) (by omega)) (Ret_chk c4 (Ret_chk c5 (Ret_chk (inb_t hm0 (by omega)) (Ret_dec (fun g=>absurd gt2 g) fun _=>?_))))
    exact Ret_chk (i64b_t (by omega) (by omega)) (ih _ ⟨by omega,by omega⟩ (by omega))
   ·refine Ret_dec (fun _=>fin) fun g6=>?_
    have ht:RValid (turnR s by_.toNat):=h.turn (by omega) (by omega)
    obtain⟨L,hL⟩:=ways_ex h h8
    obtain⟨M,hM⟩:=ways_ex ht (by omega)
    obtain⟨N,hN⟩:=ways_ex h.over h8
    rw[show rings_Count fuel (s.1,s.2)=_ from rings_Count_ok h h8 hL,Option.bind_some,show rings_Count fuel ((turnR s by_.toNat).1,(turnR s by_.toNat).2)=_ from rings_Count_ok ht (by omega) hM,Option.bind_some,
     show rings_Count fuel ((overR s).1,(overR s).2)=_ from rings_Count_ok h.over h8 hN,Option.bind_some]
    rw[←turn_count h (by omega) (by omega) hL hM,←over_count h hL hN]
    refine Ret_dec (fun _=>?_) fun g=>absurd rfl g
    refine Ret_dec (fun _=>?_) fun g=>absurd rfl g
    refine Ret_dec (fun _=>?_) fun g=>absurd rfl g
    refine Ret_dec (fun _=>?_) fun g=>absurd rfl g
    exact Ret_dec (fun _=>fin) fun g=>absurd rfl g
end X
end Go.Vm
