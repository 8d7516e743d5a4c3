/-
  Folded lines: crimps, forwards, either way round; a line that is folded has a fold that can be taken back.
  Folded lines: a fold that can be taken back.
  Folded lines: folds put back, with their ranks; folds taken away.
  Ends: a strip folds exactly if its line can be folded.
  Ends: a pile is valid exactly if its ranks fold the line; the pile that is put together backwards is valid.
-/
import Derived.Test.YtldgdgacdcenkaaGreatDoorEFa
import Derived.Test.YtldgdgacdcenkaaGreatDoorEP
import Derived.Test.YtldgdgacdcenkaaGreatDoorPPa
set_option linter.unusedSimpArgs false
set_option linter.unusedVariables false
set_option linter.unusedSectionVars false
set_option linter.unnecessarySimpa false
namespace Go.Vm.X.Fd
def Crm (e:Nat→Int) (c:Nat):Prop:=(e c≤e (c+2)∧e (c+2)<e (c+1)∧e (c+1)≤e (c+3))∨(e (c+3)≤e (c+1)∧e (c+1)<e (c+2)∧e (c+2)≤e c)
def Fold (e:Nat→Int) (n:Nat) (up:Nat→Prop) (f:Nat→Int):Prop:=Inj f n∧NC e n f∧∀i,i+1<n→(f i<f (i+1)↔up i)
def len (e:Nat→Int) (i:Nat):Int:=if e i<e (i+1) then e (i+1)-e i else e i-e (i+1)
theorem least {L:Nat→Int}:∀n,∃i,i≤n∧∀j,j≤n→L i≤L j
 | 0=>⟨0,by omega,fun j hj=>by rw[show j=0 by omega];omega⟩
 | n+1=>by
   obtain⟨i,h1,h2⟩:=least (L:=L) n
   by_cases h:L (n+1)<L i
   ·exact⟨n+1,by omega,fun j hj=>by
     by_cases e:j=n+1
     ·rw[e];omega
     ·have:=h2 j (by omega);omega⟩
   ·exact⟨i,by omega,fun j hj=>by
     by_cases e:j=n+1
     ·rw[e];omega
     ·exact h2 j (by omega)⟩
end Go.Vm.X.Fd
namespace Go.Vm.X.Fd
section
variable {e f:Nat→Int} {n p q:Nat} {l:Int} (hz:Zig e n) (h:NC e n f) (hi:Inj f n) (p0:0<p) (pq:p≤q) (qn:q+1<n)
 (hl:∀j,p≤j→j≤q→len e j=l) (hp:l<len e (p-1)) (hq:l<len e (q+1))
include hz p0 pq qn hl
include hp hq
include h hi
end
end Go.Vm.X.Fd
namespace Go.Vm.X.Fd
theorem NC_congr {e e' f f':Nat→Int} {n:Nat} (he:∀k,k≤n→e k=e' k) (hf:∀k,k<n→f k=f' k) (h:NC e n f):NC e' n f':=fun i hi=>by
 obtain⟨h1,h2⟩:=h i hi
 have bt:∀j,j<n→(Bt f' i j↔Bt f i j):=fun j hj=>by unfold Bt;rw[hf i (by omega),hf (i+1) hi,hf j hj]
 refine⟨fun j hj ht=>?_,fun j hj hji q1 q2=>?_⟩
 ·rw[bt j hj]
  refine h1 j hj ?_
  unfold thr at ht ⊢
  rw[he j (by omega),he (j+1) (by omega),he (i+1) (by omega)];exact ht
 ·rw[bt j (by omega),bt (j+1) hj]
  refine h2 j hj hji ?_ ?_
  ·rw[he (j+1) (by omega),he (i+1) (by omega)];exact q1
  ·rw[he j (by omega),he (j+1) (by omega),he i (by omega),he (i+1) (by omega)];exact q2
theorem nc_flip {e e' f:Nat→Int} {n:Nat} {a:Int} (hz:Zig e n) (he:∀k,k≤n→e' k=a-e k) (h:NC e n f):NC e' n f:=fun i hi=>by
 obtain⟨h1,h2⟩:=h i hi
 refine⟨fun j hj ht=>h1 j hj ?_,fun j hj hji q1 q2=>h2 j hj hji ?_ ?_⟩
 ·unfold thr at ht ⊢
  rw[he j (by omega),he (j+1) (by omega),he (i+1) (by omega)] at ht;omega
 ·rw[he (j+1) (by omega),he (i+1) (by omega)] at q1;omega
 ·rw[he j (by omega),he (j+1) (by omega),he i (by omega),he (i+1) (by omega)] at q2
  have:=hz.1 j (by omega)
  have:=hz.1 i (by omega)
  omega
def fL (b:Bool) (f:Nat→Int) (x:Nat):Int:=if x=0 then -2*f 0+ (if b then -1 else 1) else -2*f (x-1)
def fR (b:Bool) (f:Nat→Int) (m x:Nat):Int:=if x=m+1 then 2*f m+ (if b then 1 else -1) else 2*f x
def fC (b:Bool) (f:Nat→Int) (c x:Nat):Int:=4*f (ph c x)+ (if x=c+1 then 1 else if x=(if b then c+2 else c) then 2 else 0)
theorem fL_s {b:Bool} {f:Nat→Int} {x:Nat}:fL b f (x+1)= -2*f x:=by unfold fL;rw[if_neg (by omega)];rfl
theorem fL_0 {b:Bool} {f:Nat→Int}:fL b f 0= -2*f 0+ (if b then -1 else 1):=if_pos rfl
theorem fold_left {e e' f:Nat→Int} {m:Nat} {up up':Nat→Prop} {b:Bool} {a:Int} (hz:Zig e (m+2)) (hL:(e 2≤e 0∧e 0<e 1)∨(e 1<e 0∧e 0≤e 2)) (he:∀k,k≤m+1→e' k=a-e (k+1))
  (hb:b=true↔up 0) (hu:∀i,i+1<m+1→(up' i↔¬up (i+1))) (h:Fold e' (m+1) up' f):Fold e (m+2) up (fL b f):=by
 obtain⟨h1,h2,h3⟩:=h
 have hz':Zig (fun k=>e (k+1)) (m+1):=⟨fun i hi=>hz.1 (i+1) (by omega),fun i hi=>hz.2 (i+1) (by omega)⟩
 have hz2:Zig e' (m+1):=by
  refine⟨fun i hi=>?_,fun i hi=>?_⟩
  ·have:=hz'.1 i hi;rw[he i (by omega),he (i+1) (by omega)];simp only at this;omega
  ·have z:=hz'.2 i hi
   have y:=hz'.1 i (by omega)
   have y2:=hz'.1 (i+1) hi
   rw[he i (by omega),he (i+1) (by omega),he (i+2) (by omega)]
   simp only at z y y2
   simp only[show i+1+1=i+2 from rfl,show i+2+1=i+3 from rfl,show i+1+1+1=i+3 from rfl] at *
   omega
 have inj:Inj (fL b f) (m+2):=fun i j hi hj hq=>by
  match i,j with
  | 0,0=>rfl
  | 0,j+1=>rw[fL_0,fL_s] at hq;split at hq<;>omega
  | i+1,0=>rw[fL_0,fL_s] at hq;split at hq<;>omega
  | i+1,j+1=>rw[fL_s,fL_s] at hq;rw[h1 i j (by omega) (by omega) (by omega)]
 refine⟨inj,nc_left inj hL (fun x x1 x2=>?_) ?_,fun i hi=>?_⟩
 ·obtain⟨y,rfl⟩:∃y,x=y+1:=⟨x-1,by omega⟩
  rw[fL_s,fL_0,show(1:Nat)=0+1 from rfl,fL_s]
  have:=h1.ne (i:=y) (j:=0) (by omega) (by omega) (by omega)
  split<;>omega
 ·have:=nc_flip (e':=fun k=>e (k+1)) (a:=a) hz2 (fun k hk=>by rw[he k hk];omega) h2
  have:=nc_negf this
  intro i hi
  obtain⟨q1,q2⟩:=this i hi
  have bt:∀i j,Bt (fun k=>fL b f (k+1)) i j↔Bt (fun k=> - f k) i j:=fun i j=>by unfold Bt;simp only[fL_s];omega
  exact⟨fun j hj ht=>by rw[bt];exact q1 j hj ht,fun j hj hji a1 a2=>by rw[bt,bt];exact q2 j hj hji a1 a2⟩
 ·match i with
  | 0=>
    rw[←hb,show(0+1:Nat)=0+1 from rfl,fL_s,fL_0]
    cases b<;>simp<;>omega
  | i+1=>
    rw[fL_s,fL_s]
    have a1:=h3 i (by omega)
    have a2:=hu i (by omega)
    have a3:=h1.ne (i:=i) (j:=i+1) (by omega) (by omega) (by omega)
    have:up (i+1)↔¬f i<f (i+1):=by rw[a1,a2,Classical.not_not]
    rw[this];omega
theorem fR_lo {b:Bool} {f:Nat→Int} {m x:Nat} (h:x≤m):fR b f m x=2*f x:=if_neg (by omega)
theorem fR_at {b:Bool} {f:Nat→Int} {m:Nat}:fR b f m (m+1)=2*f m+ (if b then 1 else -1):=if_pos rfl
theorem fold_right {e f:Nat→Int} {m:Nat} {up:Nat→Prop} {b:Bool} (hL:(e m≤e (m+2)∧e (m+2)<e (m+1))∨(e (m+1)<e (m+2)∧e (m+2)≤e m))
  (hb:b=true↔up m) (h:Fold e (m+1) up f):Fold e (m+2) up (fR b f m):=by
 obtain⟨h1,h2,h3⟩:=h
 have inj:Inj (fR b f m) (m+2):=fun i j hi hj hq=>by
  by_cases hi':i=m+1
  ·by_cases hj':j=m+1
   ·omega
   ·rw[hi',fR_at,fR_lo (by omega)] at hq;split at hq<;>omega
  ·by_cases hj':j=m+1
   ·rw[hj',fR_at,fR_lo (by omega)] at hq;split at hq<;>omega
   ·rw[fR_lo (by omega),fR_lo (by omega)] at hq;exact h1 i j (by omega) (by omega) (by omega)
 refine⟨inj,nc_right inj hL (fun x hx=>?_) ?_,fun i hi=>?_⟩
 ·rw[fR_lo (by omega),fR_at,fR_lo (Nat.le_refl _)]
  have:=h1.ne (i:=x) (j:=m) (by omega) (by omega) (by omega)
  split<;>omega
 ·intro i hi
  obtain⟨q1,q2⟩:=h2 i hi
  have bt:∀j,j<m+1→(Bt (fR b f m) i j↔Bt f i j):=fun j hj=>by unfold Bt;rw[fR_lo (by omega),fR_lo (by omega),fR_lo (by omega)];omega
  exact⟨fun j hj ht=>by rw[bt j hj];exact q1 j hj ht,fun j hj hji a1 a2=>by rw[bt j (by omega),bt (j+1) hj];exact q2 j hj hji a1 a2⟩
 ·by_cases him:i=m
  ·rw[him,fR_at,fR_lo (Nat.le_refl _),←hb]
   cases b<;>simp<;>omega
  ·rw[fR_lo (by omega),fR_lo (by omega),←h3 i (by omega)];omega
theorem fold_crimp {e e' f:Nat→Int} {c n:Nat} {up up':Nat→Prop} {b:Bool} (hc:c<n) (hz:Zig e (n+2)) (hL:Crm e c) (he:∀k,k≤n→e' k=e (sk c k))
  (hb:b=true↔up c) (hu:up c↔up (c+1)) (hu':∀i,i+1<n→(up' i↔up (oc c i))) (h:Fold e' n up' f):Fold e (n+2) up (fC b f c):=by
 obtain⟨h1,h2,h3⟩:=h
 have pl:∀x,x<n+2→ph c x<n:=fun x hx=>by unfold ph;split<;>(try split)<;>omega
 have v0:fC b f c c=4*f c+ (if b then 0 else 2):=by
  unfold fC;rw[show ph c c=c by simp[ph],if_neg (by omega)];cases b<;>simp
 have v1:fC b f c (c+1)=4*f c+1:=by
  unfold fC;rw[show ph c (c+1)=c by simp[ph],if_pos rfl]
 have v2:fC b f c (c+2)=4*f c+ (if b then 2 else 0):=by
  unfold fC;rw[show ph c (c+2)=c by simp[ph],if_neg (by omega)];cases b<;>simp
 have vb:∀x,4*f (ph c x)≤fC b f c x∧fC b f c x≤4*f (ph c x)+2:=fun x=>by unfold fC;split<;>(try split)<;>omega
 have cmp:∀x y,x<n+2→y<n+2→ph c x≠ph c y→(fC b f c x<fC b f c y↔f (ph c x)<f (ph c y)):=fun x y hx hy d=>by
  have:=h1.ne (pl x hx) (pl y hy) d
  have:=vb x
  have:=vb y
  omega
 have grp:∀x,ph c x=c→x=c∨x=c+1∨x=c+2:=fun x hx=>by unfold ph at hx;split at hx<;>(try split at hx)<;>omega
 have inj:Inj (fC b f c) (n+2):=fun i j hi hj hq=>by
  by_cases d:ph c i=ph c j
  ·by_cases g:ph c i=c
   ·have gi:=grp i g
    have gj:=grp j (by rw[←d];exact g)
    rcases gi with gi | gi | gi<;>rcases gj with gj | gj | gj<;>rw[gi,gj] at hq ⊢<;>simp only[v0,v1,v2] at hq<;>cases b<;>simp at hq<;>omega
   ·have o:∀x,x<n+2→ph c x≠c→(x<c∧ph c x=x)∨(c+2<x∧ph c x=x-2):=fun x hx hc'=>by
     unfold ph at hc' ⊢
     by_cases q1:x≤c
     ·rw[if_pos q1] at hc' ⊢;left;omega
     ·rw[if_neg q1] at hc' ⊢
      by_cases q2:x≤c+2
      ·rw[if_pos q2] at hc';omega
      ·rw[if_neg q2];right;omega
    have oi:=o i hi g
    have oj:=o j hj (by rw[←d];exact g)
    omega
  ·have:=h1.ne (pl i hi) (pl j hj) d
   have:=vb i
   have:=vb j
   omega
 refine⟨inj,nc_crimp hc hz hL h1 cmp ?_ (NC_congr he (fun _ _=>rfl) h2),fun i hi=>?_⟩
 ·rw[v0,v1,v2];cases b<;>simp<;>omega
 ·by_cases i0:i=c
  ·rw[i0,v0,v1,←hb];cases b<;>simp<;>omega
  by_cases i1:i=c+1
  ·rw[i1,show c+1+1=c+2 from rfl,v1,v2,←hu,←hb];cases b<;>simp<;>omega
  have d:∀k,(i=oc c k)→k+1<n→(fC b f c i<fC b f c (i+1)↔up i):=fun k hk hkn=>by
   have p1:ph c i=k:=by rw[hk];unfold ph oc;split<;>(try split)<;>(try split)<;>omega
   have p2:ph c (i+1)=k+1:=by rw[hk];unfold ph oc;split<;>(try split)<;>(try split)<;>omega
   rw[cmp i (i+1) (by omega) hi (by rw[p1,p2];omega),p1,p2,h3 k hkn,hu' k hkn,hk]
  by_cases i2:i<c
  ·exact d i (oc_lo i2).symm (by omega)
  ·exact d (i-2) (by rw[oc_hi (by omega)];omega) (by omega)
end Go.Vm.X.Fd
namespace Go.Vm
namespace X
open W Go.Proofs.St Go.Vm.X.Fd
def posn (L:List Int):Nat→Int
 | 0=>0
 | k+1=>posn L k+if k%2=0 then L.getD k 0 else-L.getD k 0
def upK (K:List Int) (i:Nat):Prop:=(K.getD i 0=2↔i%2=0)
def Fol (s:Sp) (f:Nat→Int):Prop:=Fold (posn s.1) s.1.length (upK s.2) f
theorem Fold_congr {e e' f:Nat→Int} {n:Nat} {up up':Nat→Prop} (he:∀k,k≤n→e k=e' k) (hu:∀i,i+1<n→(up i↔up' i)) (h:Fold e n up f):Fold e' n up' f:=
 ⟨h.1,NC_congr he (fun _ _=>rfl) h.2.1,fun i hi=>(h.2.2 i hi).trans (hu i hi)⟩
theorem posn_s (L:List Int) (k:Nat):posn L (k+1)=posn L k+if k%2=0 then L.getD k 0 else-L.getD k 0:=rfl
theorem posn_congr {L M:List Int} {n:Nat} (h:∀k,k<n→L.getD k 0=M.getD k 0):∀k,k≤n→posn L k=posn M k
 | 0,_=>rfl
 | k+1,hk=>by rw[posn_s,posn_s,posn_congr h k (by omega),h k (by omega)]
theorem getD_take {L:List Int} {m k:Nat} (h:k<m):(L.take m).getD k 0=L.getD k 0:=by
 simp only[List.getD,List.getElem?_take];rw[if_pos h]
theorem getD_drop {L:List Int} {m k:Nat}:(L.drop m).getD k 0=L.getD (m+k) 0:=by
 simp only[List.getD,List.getElem?_drop]
theorem ge1 {L:List Int} (h:∀x∈L,1≤x) {i:Nat} (hi:i<L.length):1≤L.getD i 0:=h _ (getD_mem hi)
theorem zig_pos {L:List Int} (h:∀x∈L,1≤x):Zig (posn L) L.length:=by
 refine⟨fun i hi=>?_,fun i hi=>?_⟩
 ·have:=ge1 h hi
  rw[posn_s];split<;>omega
 ·have a:=ge1 h (i:=i) (by omega)
  have b:=ge1 h hi
  rw[show i+2=(i+1)+1 from rfl,posn_s L (i+1),posn_s L i]
  split<;>split<;>omega
theorem posn_drop1 {L:List Int}:∀k,posn (L.drop 1) k=posn L 1-posn L (k+1)
 | 0=>by simp[posn]
 | k+1=>by
   rw[posn_s,posn_drop1 k,posn_s L (k+1),getD_drop,show 1+k=k+1 by omega]
   split<;>split<;>omega
theorem upK_drop1 {K:List Int} (i:Nat):upK (K.drop 1) i↔¬upK K (i+1):=by
 unfold upK
 rw[getD_drop,show 1+i=i+1 by omega]
 by_cases h:K.getD (i+1) 0=2
 ·simp only[h,true_iff];omega
 ·simp only[h,false_iff];omega
theorem aftC_len {s:Sp} {c:Nat} (hl:c+2<s.1.length):(aftC s (c+1)).1.length=s.1.length-2:=by
 simp only[aftC,List.length_append,List.length_take,List.length_drop,List.length_singleton,Nat.add_sub_cancel];omega
theorem aftC_getD {s:Sp} {c:Nat} (hl:c+2<s.1.length) (k:Nat):(aftC s (c+1)).1.getD k 0=if k<c then s.1.getD k 0 else if k=c then s.1.getD c 0+s.1.getD (c+2) 0-s.1.getD (c+1) 0 else s.1.getD (k+2) 0:=by
 unfold aftC
 simp only[Nat.add_sub_cancel]
 have hlen:(s.1.take c).length=c:=by rw[List.length_take];omega
 by_cases h1:k<c
 ·rw[if_pos h1,List.getD,List.getElem?_append_left (by omega),←List.getD,getD_take h1]
 ·rw[if_neg h1,List.getD,List.getElem?_append_right (by omega),hlen]
  by_cases h2:k=c
  ·rw[if_pos h2,h2,Nat.sub_self];simp[joined]
  ·rw[if_neg h2,List.getElem?_append_right (by simp;omega),List.length_singleton,←List.getD,getD_drop]
   congr 1;omega
theorem aftC_getK {s:Sp} {c:Nat} (hl:c+1<s.2.length) (k:Nat):(aftC s (c+1)).2.getD k 0=s.2.getD (oc c k) 0:=by
 unfold aftC
 simp only[Nat.add_sub_cancel]
 have hlen:(s.2.take c).length=c:=by rw[List.length_take];omega
 by_cases h1:k<c
 ·rw[List.getD,List.getElem?_append_left (by omega),←List.getD,getD_take h1,oc_lo h1]
 ·rw[List.getD,List.getElem?_append_right (by omega),hlen,←List.getD,getD_drop,oc_hi (by omega)]
  congr 1;omega
theorem posn_crimp {s:Sp} {c:Nat} (hl:c+2<s.1.length):∀k,posn (aftC s (c+1)).1 k=posn s.1 (sk c k)
 | 0=>by rw[sk_lo (by omega)];rfl
 | k+1=>by
   rw[posn_s,posn_crimp hl k,aftC_getD hl]
   by_cases h1:k<c
   ·rw[if_pos h1,sk_lo (by omega),sk_lo (by omega),posn_s]
   rw[if_neg h1]
   by_cases h2:k=c
   ·subst h2
    rw[if_pos rfl,sk_lo (by omega),sk_hi (by omega),show k+1+2=((k+1)+1)+1 from rfl,posn_s s.1 (k+1+1),posn_s s.1 (k+1),posn_s s.1 k]
    split<;>split<;>split<;>(try simp only[show k+1+1=k+2 from rfl])<;>omega
   ·rw[if_neg h2,sk_hi (by omega),sk_hi (by omega),show k+1+2=(k+2)+1 by omega,posn_s s.1 (k+2)]
    split<;>split<;>omega
theorem upK_crimp {s:Sp} {c:Nat} (hl:c+1<s.2.length) (k:Nat):upK (aftC s (c+1)).2 k↔upK s.2 (oc c k):=by
 unfold upK
 rw[aftC_getK hl]
 unfold oc
 split<;>omega
theorem crm_pos {L:List Int} (h:∀x∈L,1≤x) {c:Nat} (hl:c+2<L.length) (h1:L.getD (c+1) 0≤L.getD c 0) (h2:L.getD (c+1) 0≤L.getD (c+2) 0):Crm (posn L) c:=by
 have a:=ge1 h (i:=c) (by omega)
 have b:=ge1 h (i:=c+1) (by omega)
 unfold Crm
 rw[show c+3=((c+1)+1)+1 from rfl,show c+2=(c+1)+1 from rfl,posn_s L (c+1+1),posn_s L (c+1),posn_s L c]
 simp only[show c+1+1=c+2 from rfl]
 split<;>split<;>split<;>omega
theorem kinds_iff {s:Sp} (h:∀x∈s.2,x=1∨x=2) {c:Nat} (hl:c+1<s.2.length):s.2.getD c 0≠s.2.getD (c+1) 0↔(upK s.2 c↔upK s.2 (c+1)):=by
 have a:=h _ (getD_mem (L:=s.2) (i:=c) (by omega))
 have b:=h _ (getD_mem (L:=s.2) (i:=c+1) hl)
 unfold upK
 rcases a with a | a<;>rcases b with b | b<;>rw[a,b]<;>simp<;>omega
theorem back_left {s:Sp} (hs:Good s) (hk:0<s.2.length) (h0:s.1.getD 0 0≤s.1.getD 1 0) {f:Nat→Int} (h:Fol (aftL s) f) {b:Bool} (hb:b=true↔upK s.2 0):Fol s (fL b f):=by
 obtain⟨⟨⟨v1,v2,v3,v4⟩,v5⟩,v6⟩:=hs
 obtain⟨m,hm⟩:∃m,s.1.length=m+2:=⟨s.1.length-2,by omega⟩
 have p1:=fun x hx=>(v3 x hx).1
 have hz:=zig_pos p1
 unfold Fol at h ⊢
 simp only[aftL,List.length_drop] at h
 rw[hm] at h hz ⊢
 have a:=ge1 p1 (i:=0) (by omega)
 have b:=ge1 p1 (i:=1) (by omega)
 refine fold_left hz (.inl ?_) (fun k _=>posn_drop1 k) hb (fun i _=>upK_drop1 i) h
 have e0:posn s.1 0=0:=rfl
 have e1:posn s.1 1=s.1.getD 0 0:=by rw[posn_s,if_pos rfl];exact Int.zero_add _
 have e2:posn s.1 2=posn s.1 1 + - s.1.getD 1 0:=by rw[posn_s s.1 1,if_neg (by decide)]
 omega
theorem back_right {s:Sp} (hs:Good s) (hk:0<s.2.length) (h0:s.1.getD s.2.length 0≤s.1.getD (s.2.length-1) 0) {f:Nat→Int} (h:Fol (aftR s) f) {b:Bool} (hb:b=true↔upK s.2 (s.2.length-1)):Fol s (fR b f (s.2.length-1)):=by
 obtain⟨⟨⟨v1,v2,v3,v4⟩,v5⟩,v6⟩:=hs
 obtain⟨m,hm⟩:∃m,s.2.length=m+1:=⟨s.2.length-1,by omega⟩
 have p1:=fun x hx=>(v3 x hx).1
 unfold Fol at h ⊢
 simp only[aftR,List.length_take] at h
 rw[hm] at h h0 hb ⊢
 simp only[Nat.add_sub_cancel] at h h0 hb ⊢
 rw[show min (m+1) s.1.length=m+1 by omega] at h
 rw[show s.1.length=m+2 by omega]
 have a:=ge1 p1 (i:=m) (by omega)
 have b:=ge1 p1 (i:=m+1) (by omega)
 refine fold_right ?_ hb (Fold_congr (posn_congr fun k hk=>getD_take hk) (fun i hi=>by unfold upK;rw[getD_take (by omega)]) h)
 rw[show m+2=(m+1)+1 from rfl,posn_s s.1 (m+1),posn_s s.1 m]
 split<;>split<;>omega
theorem back_crimp {s:Sp} (hs:Good s) {c:Nat} (hc:c+1<s.2.length) (h1:s.1.getD (c+1) 0≤s.1.getD c 0) (h2:s.1.getD (c+1) 0≤s.1.getD (c+2) 0) (hk:s.2.getD c 0≠s.2.getD (c+1) 0)
  {f:Nat→Int} (h:Fol (aftC s (c+1)) f) {b:Bool} (hb:b=true↔upK s.2 c):Fol s (fC b f c):=by
 obtain⟨⟨⟨v1,v2,v3,v4⟩,v5⟩,v6⟩:=hs
 obtain⟨n,hn⟩:∃n,s.1.length=n+2:=⟨s.1.length-2,by omega⟩
 have p1:=fun x hx=>(v3 x hx).1
 have hz:=zig_pos p1
 unfold Fol at h ⊢
 rw[aftC_len (by omega),hn,Nat.add_sub_cancel] at h
 rw[hn] at hz ⊢
 exact fold_crimp (by omega) hz (crm_pos p1 (by omega) h1 h2) (fun k _=>posn_crimp (by omega) k) hb ((kinds_iff v5 hc).1 hk) (fun i _=>upK_crimp hc i) h
theorem mem_steps {s:Sp} {k:Nat} {i:Nat} (hk:k<3) (hi:i<s.1.length) (h:sok s ((k:Int)+1,(i:Int))=true):((k:Int)+1,(i:Int))∈stepsL s:=by
 obtain⟨rest,e⟩:=preS_split hk hi
 unfold stepsL
 rw[e]
 exact List.mem_filter.2 ⟨List.mem_append.2 (.inr (List.mem_cons_self ..)),h⟩
end X
end Go.Vm
namespace Go.Vm
namespace X
open W Go.Proofs.St Go.Vm.X.Fd
theorem posn_eAt (L:List Int):∀k,posn L k=eAt L k
 | 0=>rfl
 | k+1=>by
   rw[posn_s,posn_eAt L k]
   show _=eAt L k+L.getD k 0* (1-2* ((k:Int)%2))
   split
   ·rw[show(k:Int)%2=0 by omega];omega
   ·rw[show(k:Int)%2=1 by omega];omega
theorem E_posn {s:List Int×List Int} (h:Valid s) {k:Nat} (hk:k≤s.1.length):(endsL s.1).getD k 0=posn s.1 k:=by rw[E_at h hk,posn_eAt]
def nf (f:Int→Int) (k:Nat):Int:=f k
theorem Bet_Bt {f:Int→Int} {i x:Nat}:Bet f (i:Int) (x:Int)↔Bt (nf f) i x:=by
 unfold Bet Bt nf
 rw[show((i:Int)+1)=((i+1:Nat):Int) by omega]
 generalize f i=a
 generalize f (i+1:Nat)=b
 generalize f x=c
 omega
theorem thr_ft {E:List Int} {e:Nat→Int} {j:Nat} {t:Int} (h0:E.getD j 0=e j) (h1:E.getD (j+1) 0=e (j+1)):thr e j t↔(frm E j<t∧t<too E j):=by
 unfold thr frm too
 rw[h0,h1]
 generalize e j=a
 generalize e (j+1)=b
 omega
theorem cross_nc {s:List Int×List Int} (h:Valid s) {f:Int→Int}:¬CrossC (endsL s.1) s.1.length f↔NC (posn s.1) s.1.length (nf f):=by
 have E:=fun k (hk:k≤s.1.length)=>E_posn h hk
 have z:=zig_pos (L:=s.1) fun x hx=>(h.2.2.1 x hx).1
 constructor
 ·intro hc i hi
  refine⟨fun j hj ht hb=>hc ⟨i,by omega,by omega,.inl ⟨j,by omega,by omega,?_,?_,Bet_Bt.2 hb⟩⟩,fun j hj hji e1 e2=>Classical.byContradiction fun hn=>hc ⟨i,by omega,by omega,.inr ⟨j,by omega,by omega,by omega,?_,?_,?_⟩⟩⟩
  ·have:=(thr_ft (E j (by omega)) (E (j+1) (by omega))).1 ht
   rw[Int.toNat_natCast,Int.toNat_natCast,E (i+1) (by omega)];exact this.1
  ·have:=(thr_ft (E j (by omega)) (E (j+1) (by omega))).1 ht
   rw[Int.toNat_natCast,Int.toNat_natCast,E (i+1) (by omega)];exact this.2
  ·rw[Int.toNat_natCast,Int.toNat_natCast,E (i+1) (by omega),E (j+1) (by omega)];exact e1
  ·rw[Int.toNat_natCast,Int.toNat_natCast,E (i+1) (by omega),E i (by omega),E j (by omega)]
   have:=z.1 i (by omega)
   have:=z.1 j (by omega)
   omega
  ·rw[show(j:Int)+1=((j+1:Nat):Int) by omega,Bet_Bt,Bet_Bt];exact hn
 ·rintro hn ⟨i,h0,h1,hc⟩
  obtain⟨i,rfl⟩:=Int.eq_ofNat_of_zero_le h0
  obtain⟨q1,q2⟩:=hn i (by omega)
  simp only[Int.toNat_natCast] at hc
  rw[E (i+1) (by omega),E i (by omega)] at hc
  rcases hc with⟨j,a1,a2,a3,a4,a5⟩ | ⟨j,a1,a2,a3,a4,a5,a6⟩
  ·obtain⟨j,rfl⟩:=Int.eq_ofNat_of_zero_le a1
   simp only[Int.toNat_natCast] at a3 a4
   exact q1 j (by omega) ((thr_ft (E j (by omega)) (E (j+1) (by omega))).2 ⟨a3,a4⟩) (Bet_Bt.1 a5)
  ·obtain⟨j,rfl⟩:=Int.eq_ofNat_of_zero_le a1
   simp only[Int.toNat_natCast] at a4 a5
   rw[E (j+1) (by omega)] at a4
   rw[E j (by omega)] at a5
   rw[show(j:Int)+1=((j+1:Nat):Int) by omega,Bet_Bt,Bet_Bt] at a6
   have:=z.1 i (by omega)
   have:=z.1 j (by omega)
   exact a6 (q2 j (by omega) (by omega) a4 (by omega))
theorem rk_inj {n:Nat} {p:List Int} (hp:Ord n p):Inj (nf (rkF p)) n:=fun i j hi hj h=>by
 have:=rkF_inj (hp.mem hi) (hp.mem hj) h
 omega
theorem kind_up {s:Sp} (h:Dec s) {p:List Int} (hp:Ord s.1.length p):¬KindBad s.2 p↔∀i,i+1<s.1.length→(nf (rkF p) i<nf (rkF p) (i+1)↔upK s.2 i):=by
 have hl:=h.1.2.1
 have inj:=rk_inj hp
 have key:∀i:Nat,i<s.2.length→((s.2.getD (i:Int).toNat 0≠3∧s.2.getD (i:Int).toNat 0≠kindF (rkF p) i)↔¬(nf (rkF p) i<nf (rkF p) (i+1)↔upK s.2 i)):=fun i hi=>by
  have hk:=h.2 _ (getD_mem (L:=s.2) hi)
  have hne:=inj.ne (i:=i) (j:=i+1) (by omega) (by omega) (by omega)
  unfold kindF upK
  rw[Int.toNat_natCast]
  unfold nf at *
  rcases(by omega:i%2=0∨i%2=1) with e | e
  ·rw[show(i:Int)+i%2=(i:Int) by omega,show(i:Int)+1-i%2=((i+1:Nat):Int) by omega]
   generalize rkF p i=a at *
   generalize rkF p (i+1:Nat)=b at *
   split<;>omega
  ·rw[show(i:Int)+i%2=((i+1:Nat):Int) by omega,show(i:Int)+1-i%2=(i:Int) by omega]
   generalize rkF p i=a at *
   generalize rkF p (i+1:Nat)=b at *
   split<;>omega
 constructor
 ·intro hk i hi
  refine Classical.byContradiction fun hn=>hk ⟨i,by omega,by omega,?_⟩
  exact(key i (by omega)).2 hn
 ·rintro hu ⟨i,h0,h1,h2⟩
  obtain⟨i,rfl⟩:=Int.eq_ofNat_of_zero_le h0
  exact(key i (by omega)).1 h2 (hu i (by omega))
theorem fol_iff {s:Sp} (h:Dec s) {p:List Int} (hp:Ord s.1.length p):chkV s p=0↔Fol s (nf (rkF p)):=by
 unfold chkV Fol Fold
 rw[←cross_nc h.1,←kind_up h hp]
 constructor
 ·intro hc
  by_cases a:CrossC (endsL s.1) s.1.length (rkF p)
  ·rw[if_pos a] at hc;omega
  ·rw[if_neg a] at hc
   by_cases b:KindBad s.2 p
   ·rw[if_pos b] at hc;omega
   ·exact⟨rk_inj hp,a,b⟩
 ·rintro ⟨-,a,b⟩
  rw[if_neg a,if_neg b]
theorem Fold_iso {e f g:Nat→Int} {n:Nat} {up:Nat→Prop} (hfg:∀i j,i<n→j<n→(f i<f j↔g i<g j)) (h:Fold e n up f):Fold e n up g:=by
 obtain⟨h1,h2,h3⟩:=h
 have bt:∀i x,i+1<n→x<n→(Bt f i x↔Bt g i x):=fun i x hi hx=>by
  unfold Bt
  rw[hfg i x (by omega) hx,hfg x (i+1) hx hi,hfg (i+1) x hi hx,hfg x i hx (by omega)]
 refine⟨fun i j hi hj he=>h1 i j hi hj ?_,fun i hi=>?_,fun i hi=>(hfg i (i+1) (by omega) hi).symm.trans (h3 i hi)⟩
 ·have:=hfg i j hi hj
  have:=hfg j i hj hi
  omega
 ·obtain⟨q1,q2⟩:=h2 i hi
  exact⟨fun j hj ht=>by rw[←bt i j hi hj];exact q1 j hj ht,fun j hj hji a1 a2=>by rw[←bt i j hi (by omega),←bt i (j+1) hi hj];exact q2 j hj hji a1 a2⟩
theorem rk_iso {n:Nat} {p:List Int} (hp:Ord n p) {F:Nat→Int} (hF:p.Pairwise fun a b=>F a.toNat<F b.toNat):∀i j,i<n→j<n→(F i<F j↔nf (rkF p) i<nf (rkF p) j):=fun i j hi hj=>by
 obtain⟨a1,a2,a3⟩:=at_rkF (hp.mem hi)
 obtain⟨b1,b2,b3⟩:=at_rkF (hp.mem hj)
 unfold nf
 rw[List.pairwise_iff_getElem] at hF
 have g:∀k (hk:k<p.length),p.getD k 0=p[k]:=fun k hk=>by rw[List.getD,List.getElem?_eq_getElem hk];rfl
 rw[g _ a1] at a2
 rw[g _ b1] at b2
 rcases(by omega:(rkF p i).toNat< (rkF p j).toNat∨(rkF p i).toNat=(rkF p j).toNat∨(rkF p j).toNat< (rkF p i).toNat) with q | q | q
 ·have:=hF _ _ a1 b1 q
  rw[a2,b2] at this
  simp only[Int.toNat_natCast] at this
  omega
 ·have:i=j:=by
   have:=rkF_inj (hp.mem hi) (hp.mem hj) (by omega)
   omega
  subst this;omega
 ·have:=hF _ _ b1 a1 q
  rw[a2,b2] at this
  simp only[Int.toNat_natCast] at this
  omega
theorem abv_up {s:Sp} {c:Nat}:abv s c=true↔upK s.2 c:=by
 unfold abv upK
 rw[beq_iff_eq,decide_eq_decide]
theorem undo_fol {s:Sp} (hs:Good s) {x:Int×Int} (hx:sok s x=true) {q:List Int} (hq:OrdP (aft s x).1.length q) (h:Fol (aft s x) (nf (rkF q))):Fol s (nf (rkF (undoL s x q))):=by
 have ho:Ord s.1.length (undoL s x q):=undo_ord hs hx hq
 obtain⟨k,at_⟩:=x
 have hl:=hs.len
 have hpw:=rkF_pw hq.nodup
 have qin:=hq.in
 obtain⟨hk,g | g | ⟨g,g2,g3⟩⟩:=sok_bound hx
 ·simp only at g;subst g
  have e:(aft s (1,at_)).1.length=s.2.length:=by simp only[aft,if_true,aftL,List.length_drop];omega
  rw[e] at hq qin
  simp[sok,lok] at hx
  have hf:=back_left hs hk (by simpa[List.getD] using hx.2.2) h (abv_up (s:=s) (c:=0))
  refine Fold_iso (rk_iso ho ?_) hf
  rw[undo_left_flat hk hq,List.pairwise_flatMap]
  have fs:∀x∈q,fL (abv s 0) (nf (rkF q)) (x+1).toNat= -2*rkF q x:=fun x hx=>by
   have:=qin x hx
   rw[show(x+1).toNat=x.toNat+1 by omega,fL_s];unfold nf;rw[show((x.toNat:Nat):Int)=x by omega]
  have f0:fL (abv s 0) (nf (rkF q)) (0:Int).toNat= -2*rkF q 0+ (if abv s 0 then -1 else 1):=fL_0
  have cm:∀a,a∈cntL q 0 1→∃x∈q,a=x+1:=fun a ha=>by
   obtain⟨x,hx,rfl⟩:=List.mem_map.1 ha
   exact⟨x,hx,if_pos (qin x hx).1⟩
  have gz:∀a,a∈cntL q 0 1→∀z∈(if a=1 then(if abv s 0 then [0,a] else [a,0]) else [a]),(z=a∨(z=0∧a=1)):=fun a ha z hz=>by
   by_cases h1:a=1
   ·rw[if_pos h1] at hz
    cases hb:abv s 0 with
    | true=>rw[hb] at hz;simp at hz;omega
    | false=>rw[hb] at hz;simp at hz;omega
   ·rw[if_neg h1] at hz;simp at hz;omega
  refine⟨fun a ha=>?_,List.pairwise_reverse.2 ?_⟩
  ·obtain⟨x,hx,rfl⟩:=cm a (List.mem_reverse.1 ha)
   by_cases h1:x+1=1
   ·have x0:x=0:=by omega
    subst x0
    have:=fs 0 hx
    rw[if_pos h1]
    cases hb:abv s 0 with
    | true=>
      rw[hb] at f0 this
      simp only[if_true,List.pairwise_cons,List.mem_singleton,forall_eq,List.not_mem_nil,false_implies,implies_true,List.Pairwise.nil,and_true] at f0 ⊢
      omega
    | false=>
      rw[hb] at f0 this
      simp only[Bool.false_eq_true,if_false,List.pairwise_cons,List.mem_singleton,forall_eq,List.not_mem_nil,false_implies,implies_true,List.Pairwise.nil,and_true] at f0 ⊢
      omega
   ·rw[if_neg h1];exact List.pairwise_singleton ..
  ·unfold cntL
   rw[List.pairwise_map]
   refine hpw.imp_of_mem fun {a b} ha hb hab z hz w hw=>?_
   have hza:=gz _ (List.mem_map.2 ⟨b,hb,rfl⟩) z hz
   have hwa:=gz _ (List.mem_map.2 ⟨a,ha,rfl⟩) w hw
   rw[if_pos (qin a ha).1] at hwa
   rw[if_pos (qin b hb).1] at hza
   have fa:=fs a ha
   have fb:=fs b hb
   rcases hza with rfl | ⟨rfl,hb1⟩<;>rcases hwa with rfl | ⟨rfl,ha1⟩
   ·omega
   ·have:a=0:=by omega
    subst this
    split at f0<;>omega
   ·have:b=0:=by omega
    subst this
    split at f0<;>omega
   ·have e1:a=0:=by omega
    have e2:b=0:=by omega
    subst e1;subst e2;omega
 ·simp only at g;subst g
  have e:(aft s (2,at_)).1.length=s.2.length:=by simp only[aft,if_true,aftR,List.length_take,show ¬((2:Int)=1) by omega,if_false];omega
  rw[e] at hq qin
  simp[sok,rok] at hx
  have hf:=back_right hs hk (by simpa[List.getD] using hx.2.2) h (abv_up (s:=s) (c:=s.2.length-1))
  refine Fold_iso (rk_iso ho ?_) hf
  rw[undo_right_flat hk hq,List.pairwise_flatMap]
  have fs:∀x∈q,fR (abv s (s.2.length-1)) (nf (rkF q)) (s.2.length-1) x.toNat=2*rkF q x:=fun x hx=>by
   have:=qin x hx
   rw[fR_lo (by omega)];unfold nf;rw[show((x.toNat:Nat):Int)=x by omega]
  have f0:fR (abv s (s.2.length-1)) (nf (rkF q)) (s.2.length-1) (s.2.length:Int).toNat=2*rkF q ((s.2.length:Int)-1)+ (if abv s (s.2.length-1) then 1 else -1):=by
   rw[show(s.2.length:Int).toNat=s.2.length-1+1 by omega,fR_at];unfold nf;rw[show((s.2.length-1:Nat):Int)=(s.2.length:Int)-1 by omega]
  generalize hm:(s.2.length:Int)-1=m at *
  generalize hn:(s.2.length:Int)=n at *
  generalize abv s (s.2.length-1)=b at *
  have gz:∀a z,z∈(if a=m then(if b then [a,n] else [n,a]) else [a])→(z=a∨(z=n∧a=m)):=fun a z hz=>by
   by_cases h1:a=m
   ·rw[if_pos h1] at hz
    cases b<;>simp at hz<;>omega
   ·rw[if_neg h1] at hz;simp at hz;omega
  refine⟨fun a ha=>?_,?_⟩
  ·have fa:=fs a ha
   by_cases h1:a=m
   ·subst h1
    rw[if_pos rfl]
    cases b with
    | true=>
      simp only[if_true,List.pairwise_cons,List.mem_singleton,forall_eq,List.not_mem_nil,false_implies,implies_true,List.Pairwise.nil,and_true] at f0 fa ⊢
      omega
    | false=>
      simp only[Bool.false_eq_true,if_false,List.pairwise_cons,List.mem_singleton,forall_eq,List.not_mem_nil,false_implies,implies_true,List.Pairwise.nil,and_true] at f0 fa ⊢
      omega
   ·rw[if_neg h1];exact List.pairwise_singleton ..
  ·refine hpw.imp_of_mem fun {a c} ha hc hac z hz w hw=>?_
   have fa:=fs a ha
   have fc:=fs c hc
   rcases gz _ _ hz with rfl | ⟨rfl,ha1⟩<;>rcases gz _ _ hw with rfl | ⟨rfl,hc1⟩
   ·omega
   ·subst hc1;split at f0<;>omega
   ·subst ha1;split at f0<;>omega
   ·subst ha1;subst hc1;omega
 ·simp only at g g2 g3;subst g
  obtain⟨c,rfl⟩:∃c:Nat,at_=(c:Int)+1:=⟨(at_-1).toNat,by omega⟩
  have ec:aft s (3,(c:Int)+1)=aftC s (c+1):=by
   have:((c:Int)+1).toNat=c+1:=by omega
   simp[aft,this]
  have e:(aft s (3,(c:Int)+1)).1.length=s.1.length-2:=by rw[ec,aftC_len (by omega)]
  rw[e] at hq qin
  rw[ec] at h
  have hx:cok s (c+1)=true:=by
   have:((c:Int)+1).toNat=c+1:=by omega
   unfold sok at hx
   simp only[this,show ¬((3:Int)=1) by omega,show ¬((3:Int)=2) by omega,if_false,if_true,Bool.and_eq_true] at hx
   exact hx.2
  simp only[cok,Bool.and_eq_true,decide_eq_true_eq,Nat.add_sub_cancel] at hx
  obtain⟨⟨⟨⟨-,x1⟩,x2⟩,x3⟩,x4⟩:=hx
  have hf:=back_crimp hs x1 x2 x3 x4 h (abv_up (s:=s) (c:=c))
  refine Fold_iso (rk_iso ho ?_) hf
  rw[undo_crimp_flat (by omega) (by omega) (by omega) hq,List.pairwise_flatMap]
  have fs:∀z k:Int,0≤z→k∈q→(ph c z.toNat:Int)=k→4*rkF q k≤fC (abv s c) (nf (rkF q)) c z.toNat∧fC (abv s c) (nf (rkF q)) c z.toNat≤4*rkF q k+2:=fun z k h0 hk hz=>by
   unfold fC nf
   rw[hz]
   split<;>(try split)<;>omega
  have gz:∀a∈q,∀z,z∈(if a=(c:Int) then(if abv s c then [a,a+1,a+2] else [a+2,a+1,a]) else [if(c:Int)+1≤a then a+2 else a])→0≤z∧(ph c z.toNat:Int)=a:=fun a ha z hz=>by
   have ha0:=qin a ha
   by_cases h1:a=c
   ·rw[if_pos h1] at hz
    have:z=a∨z=a+1∨z=a+2:=by
     cases hb:abv s c<;>rw[hb] at hz<;>simp at hz<;>omega
    refine⟨by omega,?_⟩
    unfold ph
    split<;>(try split)<;>omega
   ·rw[if_neg h1] at hz
    have hz:=List.mem_singleton.1 hz
    subst hz
    unfold ph
    split<;>split<;>(try split)<;>omega
  refine⟨fun a ha=>?_,?_⟩
  ·by_cases h1:a=c
   ·subst h1
    rw[if_pos rfl]
    have v0:fC (abv s c) (nf (rkF q)) c (c:Int).toNat=4*rkF q c+ (if abv s c then 0 else 2):=by
     unfold fC;rw[Int.toNat_natCast,show ph c c=c by simp[ph],if_neg (by omega)];unfold nf;cases abv s c<;>simp
    have v1:fC (abv s c) (nf (rkF q)) c ((c:Int)+1).toNat=4*rkF q c+1:=by
     unfold fC;rw[show((c:Int)+1).toNat=c+1 by omega,show ph c (c+1)=c by simp[ph],if_pos rfl];rfl
    have v2:fC (abv s c) (nf (rkF q)) c ((c:Int)+2).toNat=4*rkF q c+ (if abv s c then 2 else 0):=by
     unfold fC;rw[show((c:Int)+2).toNat=c+2 by omega,show ph c (c+2)=c by simp[ph],if_neg (by omega)];unfold nf;cases abv s c<;>simp
    generalize fC (abv s c) (nf (rkF q)) c=F at *
    cases hb:abv s c with
    | true=>
      rw[hb] at v0 v2
      simp only[if_true] at v0 v2 ⊢
      refine List.pairwise_cons.2 ⟨fun y hy=>?_,List.pairwise_cons.2 ⟨fun y hy=>?_,List.pairwise_singleton ..⟩⟩
      ·simp at hy;rcases hy with rfl | rfl<;>omega
      ·simp at hy;subst hy;omega
    | false=>
      rw[hb] at v0 v2
      simp only[Bool.false_eq_true,if_false] at v0 v2 ⊢
      refine List.pairwise_cons.2 ⟨fun y hy=>?_,List.pairwise_cons.2 ⟨fun y hy=>?_,List.pairwise_singleton ..⟩⟩
      ·simp at hy;rcases hy with rfl | rfl<;>omega
      ·simp at hy;subst hy;omega
   ·rw[if_neg h1];exact List.pairwise_singleton ..
  ·refine hpw.imp_of_mem fun {a d} ha hd hac z hz w hw=>?_
   have gza:=gz a ha z hz
   have gwd:=gz d hd w hw
   have fa:=fs z a gza.1 ha gza.2
   have fd:=fs w d gwd.1 hd gwd.2
   omega
theorem pile_fol {s:Sp} (hs:Good s) (hd:Done s):Fol s (nf (rkF (pileS s))):=by
 revert hs hd
 refine fold_ind (P:=fun s=>Good s→Done s→Fol s (nf (rkF (pileS s)))) ?_ ?_ s
 ·intro s e hs hd
  unfold Done at hd
  rw[foldS_nil e] at hd
  have hl:=hs.len
  simp only at hd
  unfold Fol
  rw[show s.1.length=1 by omega]
  exact⟨fun i j hi hj _=>by omega,fun i hi=>absurd hi (by omega),fun i hi=>absurd hi (by omega)⟩
 ·intro s x t e ih hs hd
  have hx:=sok_of_cons e
  have ha:=aft_good hs hx
  rw[pileS_cons e]
  exact undo_fol hs hx (pile_ord ha (hd.cons e)) (ih ha (hd.cons e))
theorem pile_chk {s:Sp} (hs:Good s) (hd:Done s):chkV s (pileS s)=0:=(fol_iff hs.1 (pile_ord hs hd)).2 (pile_fol hs hd)
end X
end Go.Vm
