/- Parts of the proof. -/
import Derived.Test.YtccefhabickfiaaGreatDoorTb
import Derived.Test.YtccefhabickfiaaGreatDoorTg
import Derived.Test.YtccefhabickfiaaGreatDoorTh
import Derived.Test.YtccefhabickfiaaGreatDoorTe
import Derived.Test.YtccefhabickfiaaGreatDoorMS
set_option linter.unusedSimpArgs false
set_option linter.defProp false
set_option linter.unusedVariables false
namespace Go.Vm
namespace X
open W
def gX (c:UInt8):List UInt8->List (List UInt8)
 | []=>[[]]
 | b::l=>if b=c then []::gX c l else match gX c l with
   | w::ws=>(b::w)::ws
   | []=>[[b]]
def jzl {b c:UInt8} {l:List UInt8} (h:b≠c):Lib.index (b::l) [c]=if Lib.index l [c]== -1 then -1 else Lib.index l [c] +1:=by
 rw[Lib.index];have:([c]:List UInt8).isPrefixOf (b::l)=false:=by simp[List.isPrefixOf];exact λe=>h e.symm
 rw[this];simp
def jzm {c:UInt8} {l:List UInt8}:Lib.index (c::l) [c]=0:=by
 rw[Lib.index];simp[List.isPrefixOf]
def j7s {b c:UInt8} {l:List UInt8} (h:b≠c):∀k,∃w ws,Lib.splitK [c] 0 k l=w::ws/\Lib.splitK [c] 0 k (b::l)=(b::w)::ws
 | 0=>⟨l,[],rfl,rfl⟩
 | k+1=>by
   unfold Lib.splitK;rw[jzl h];by_cases h1:Lib.index l [c]= -1
   ·simp only[h1];exact⟨l,[],by simp,by simp⟩
   ·have hge:=Lib.index_ge l [c];have e1:(Lib.index l [c]== -1)=false:=by simpa using h1
    have e2:(Lib.index l [c] +1== -1)=false:=by simp;omega
    simp only[e1,e2,fX,cO];obtain⟨j,hj⟩:=qgm (show 0<=Lib.index l [c] by omega);rw[hj];refine⟨_,_,rfl,?_⟩;have e3:((j:Int)+1).toNat=j+1:=by omega
    simp only[e3,fF,iV,Fs,kC,List.drop_succ_cons]
def Gv (c:UInt8):∀s:List UInt8,Lib.split s [c]=gX c s
 | []=>by
   unfold Lib.split;rw[Lib.count_one];rfl
 | b::l=>by
   have ih:=Gv c l;unfold Lib.split at ih ⊢;by_cases h:b=c
   ·subst h;rw[Lib.count_cons_eq,Ue];unfold Lib.splitK;rw[jzm];simp only[gX,bR];rw[<-ih];simp
   ·rw[Lib.count_cons_ne _ _ _ h];obtain⟨w,ws,e1,e2⟩:=j7s h (Lib.count l [c]);rw[e2];simp only[gX,h,cO];rw[<-ih,e1]
def jdn {c:UInt8}:∀s:List UInt8,gX c s≠[]
 | []=>by simp[gX]
 | b::l=>by
   unfold gX;split
   ·simp
   ·split<;>simp
def jk2 (c:UInt8):∀s:List UInt8,Lib.join (gX c s) [c]=s
 | []=>by simp[gX,Lib.join_one]
 | b::l=>by
   have ih:=jk2 c l;have hne:=jdn (c:=c) l;unfold gX;by_cases h:b=c
   ·rw[aK h];cases hs:gX c l with
    | nil=>exact absurd hs hne
    | cons w ws=>
      rw[hs,Lib.join_cons] at ih;rw[Lib.join_cons,h];simp only[Lib.joinTail,dA,sN,dZ,List.singleton_append,eW] at ih ⊢;rw[ih]
   ·rw[aD h];cases hs:gX c l with
    | nil=>exact absurd hs hne
    | cons w ws=>
      rw[hs,Lib.join_cons] at ih;rw[Lib.join_cons];simp only[eW];rw[ih]
def jdo {c:UInt8} {r:List UInt8} {v:List UInt8} {vs:List (List UInt8)} (hr:gX c r=v::vs):∀ {w:List UInt8},c∉w->gX c (w++r)=(w++v)::vs
 | [],_=>hr
 | b::w,h=>by
   have hb:b≠c:=λe=>h (by rw[e];exact bY ..)
   rw[eW];unfold gX;rw[aD hb,jdo hr (λhm=>h (bX _ hm))];rfl
def jp4 {c:UInt8}:∀ {w:List UInt8} {ws:List (List UInt8)},(∀x∈w::ws,c∉x)->gX c (Lib.join (w::ws) [c])=w::ws
 | w,[],h=>by
   rw[Lib.join_one];have:=jdo (c:=c) (r:=[]) (v:=[]) (vs:=[]) rfl (h w (bY ..));simpa using this
 | w,w'::ws,h=>by
   have ih:=jp4 (c:=c) (w:=w') (ws:=ws) λx hx=>h x (bX _ hx)
   have e:Lib.join (w::w'::ws) [c]=w++(c::Lib.join (w'::ws) [c]):=by
    rw[Lib.join_cons,Lib.join_cons];simp[Lib.joinTail]
   rw[e];have:=jdo (c:=c) (r:=c::Lib.join (w'::ws) [c]) (v:=[]) (vs:=gX c (Lib.join (w'::ws) [c])) (by rw[gX,aK rfl]) (h w (bY ..));rw[this,ih];simp
def Hk {w:List Nat} (h:∀x∈w,x<256):(u8 w).map UInt8.toNat=w:=by
 unfold u8;rw[lO];conv=>rhs;rw[<-Ge w]
 refine oM λx hx=>?_
 have:=h x hx;simp[Function.comp,UInt8.toNat_ofNat,Tq this]
def Is (w:List UInt8):u8 (w.map UInt8.toNat)=w:=by
 unfold u8;rw[lO];conv=>rhs;rw[<-Ge w]
 exact oM λx hx=>by simp[Function.comp]
def jrp {s:List Nat} (h:∀x∈s,x<256):pG (cY s [32]) [32]=s:=by
 unfold pG cY;rw[lO,show(u8∘λw:List UInt8=>w.map UInt8.toNat)=id from funext λw=>Is w,Ge,show u8 [32]=[32] from rfl,Gv,jk2,Hk h]
def Rh {w:List Nat} {ws:List (List Nat)} (h:∀x∈w::ws,(∀y∈x,y<256/\y≠32)):cY (pG (w::ws) [32]) [32]=w::ws:=by
 unfold pG cY;rw[Is,show u8 [32]=[32] from rfl,Gv,dA,jp4,<-dA (f:=u8),lO]
 ·conv=>rhs;rw[<-Ge (w::ws)]
  exact oM λx hx=>Hk λy hy=>(h x hx y hy).1
 ·intro x hx hm;rw[<-dA] at hx;obtain⟨x',hx',rfl⟩:=bU.1 hx;obtain⟨y,hy,e⟩:=bU.1 hm;have:=h x' hx' y hy;have e2:y=32:=by
   have:=congrArg UInt8.toNat e;simpa[UInt8.toNat_ofNat,Tq (h x' hx' y hy).1] using this
  exact this.2 e2
def kas {s:List Nat}:cY s [32]≠[]:=by
 unfold cY;rw[show u8 [32]=[32] from rfl,Gv];intro h;exact jdn _ (List.map_eq_nil_iff.1 h)
def jp3 {c:UInt8}:∀s:List UInt8,(gX c s).length<=s.length+1/\∀w∈gX c s,w.length<=s.length
 | []=>by simp[gX]
 | b::l=>by
   obtain⟨h1,h2⟩:=jp3 (c:=c) l;unfold gX;split
   ·refine⟨by simp;omega,λw hw=>?_⟩;rcases bL.1 hw with rfl | hw
    ·simp
    ·have:=h2 w hw;simp;omega
   ·split
    ·rename_i w ws e;rw[e] at h1 h2;refine⟨by simp at h1 ⊢;omega,λx hx=>?_⟩;rcases bL.1 hx with rfl | hx
     ·have:=h2 w (bY ..);simpa using this
     ·have:=h2 x (bX _ hx);simp;omega
    ·refine⟨by simp,λx hx=>?_⟩;rw[bF.1 hx];simp
def jrq (s:List Nat):(cY s [32]).length<=s.length+1/\∀w∈cY s [32],w.length<=s.length:=by
 obtain⟨h1,h2⟩:=jp3 (c:=32) (u8 s);unfold cY;rw[show u8 [32]=[32] from rfl,Gv];refine⟨by simpa[u8] using h1,λw hw=>?_⟩;obtain⟨w',hw',rfl⟩:=bU.1 hw;simpa[u8] using h2 w' hw'
set_option maxRecDepth 100000
def bV:Nat->Nat->List Nat
 | 0,_=>[]
 | k+1,u=>bif u.blt 10 then [48+u] else bV k (u / 10)++[48+u%10]
def cF (n:Int):List Nat:=bV 20 n.toNat
def jg7 (a b:Nat):a.blt b=decide (a<b):=by
 simp only[Nat.blt,aP];rfl
def Jg:∀(k u:Nat),u<10^k->k≠0->bV k u=(Lib.decDigits u).map UInt8.toNat
 | 0,u,_,h=>absurd rfl h
 | k+1,u,h,_=>by
   unfold bV;rw[Lib.decDigits,jg7];by_cases g:u<10
   ·rw[cK g,dif_pos g];simp;omega
   ·rw[pS g,dif_neg g];have hk:k≠0:=by
     intro e;subst e;simp at h;omega
    simp only[aF,fY,dA,nO];rw[Jg k (u / 10) (by rw[Lq] at h;omega) hk]
    congr 2
    simp;omega
def pB:∀(k u:Nat),(bV k u).length<=k
 | 0,u=>by simp[bV]
 | k+1,u=>by
   unfold bV;cases h:u.blt 10 with
   | true=>simp
   | false=>have:=pB k (u / 10);simp;omega
def Wv (n:Int):IntKind.u8.wrap n=n%256:=by simp[IntKind.wrap,IntKind.bits,IntKind.signed]
def kak {v:Int} (h1:0<=v) (h2:v<=9223372036854775807):IntKind.i64.wrap v=v:=jkk (cM (by omega) (by omega))
def jfk:∀(k u:Nat),u<10^k->u<9223372036854775800->k≠0->k<=1000->Lv fuel k (u:Int)=some (bV k u)
 | 0,u,_,_,h,_=>absurd rfl h
 | k+1,u,h,hu,_,hk1=>by
   apply Ret.eq;show Ret (Ui fuel (Lv fuel k) (u:Int)) _;unfold Ui bV;rw[jg7];refine aS (λg=>absurd g (by omega)) λ_=>aS (λg=>?_) λg=>?_
   ·rw[cK (show u<10 by omega)];rw[Wv,show(48+ (u:Int))%256=((48+u:Nat):Int) by omega];refine cI (bB (by simp;omega) (cB (by simp;omega)))
   ·rw[pS (show ¬u<10 by omega)];have hk:k≠0:=by
     intro e;subst e;simp at h;omega
    have e1:(u:Int) / 10=((u / 10:Nat):Int):=by omega
    have e2:(48+ (u:Int)%10)%256=((48+u%10:Nat):Int):=by omega
    rw[Wv,e2,e1,kak (by omega) (by omega),jfk k (u / 10) (by rw[Lq] at h;omega) (by omega) hk (by omega),aO];have hl:=pB k (u / 10);refine bB (by simp) (bB (by simp) (cI (bB (by simp;omega) (bB (by simp;omega) (cB ?_)))));simp;omega
def jxv {k j u:Nat} (h:u<10^k) (hk:k≠0) (hj:k<=j):bV j u=bV k u:=by
 rw[Jg k u h hk,Jg j u (kB h (Fq (by decide) hj)) (by omega)]
def Hu {n:Int} (h0:0<=n) (h1:n<1000000000000000):oQ fuel n=some (cF n):=by
 unfold oQ cF;have h2:n.toNat<10^20:=by have:(10:Nat)^20=100000000000000000000:=(by decide);omega
 have:=jfk 22 n.toNat (kB h2 (by decide)) (by omega) (by decide) (by decide);rw[show((n.toNat:Nat):Int)=n by omega] at this;rw[this,jxv h2 (by decide) (by decide)]
def kag (n:Int):IntKind.u32.wrap n=n%4294967296:=by simp[IntKind.wrap,IntKind.bits,IntKind.signed]
def kah (n:Int):IntKind.u64.wrap n=n%18446744073709551616:=by simp[IntKind.wrap,IntKind.bits,IntKind.signed]
def j8z {m:Nat} (h:m<100):cP.getD (2*m) 0=48+m / 10/\cP.getD (2*m+1) 0=48+m%10:=by
 have:(List.range 100).all (λm=>(cP.getD (2*m) 0).beq (48+m / 10)&&(cP.getD (2*m+1) 0).beq (48+m%10))=true:=by kernel_rfl
 have:=bS.1 this m (jI.2 h);simpa[aL] using this
def Buf (l:List Int):Prop:=l.length=24/\∀x∈l,0<=x/\x<=255
def Buf.set {l:List Int} {i:Nat} {v:Int} (h:Buf l) (h1:0<=v) (h2:v<=255):Buf (l.set i v):=by
 refine⟨by rw[yI];exact h.1,λx hx=>?_⟩;rcases qgg hx with h3 | h3
 ·exact h.2 x h3
 ·rw[h3];exact⟨h1,h2⟩
def Buf.all {l:List Int} (h:Buf l) (m o:Nat):((List.take m (List.drop o l)).all λx=>decide (0<=x)&&decide (x<=255))=true:=by
 rw[bS];intro x hx;have:=h.2 x (Lh (qfr hx));simpa using this
structure DigInv (n d:Nat) (i:Int) (L:List Int):Prop where
 buf:Buf L
 dg:∀k:Nat,i<=k->k<d->L[1+k]?=some ((48+n / 10^ (d-1-k)%10:Nat):Int)
def jdf {L:List Int} {i j:Nat} {v:Int} (hi:i<L.length):(L.set i v)[j]?=if i=j then some v else L[j]?:=by
 rw[Fz];by_cases h:i=j
 ·subst h;simp[hi]
 ·simp[h]
def DigInv.two {n d:Nat} {i j1 j2 a b:Int} {L:List Int} (h:DigInv n d i L) (hd:d<=20) (hi:2<=i) (hid:i<=d) (e1:j1=i-1) (e2:j2=i-2)
  (ha:a=2* ((n / 10^ (d-i.toNat):Nat):Int)%200+1) (hb:b=2* ((n / 10^ (d-i.toNat):Nat):Int)%200):
  DigInv n d j2 ((L.set (1+j1.toNat) ((cP.getD a.toNat 0:Nat):Int)).set (1+j2.toNat) ((cP.getD b.toNat 0:Nat):Int)):=by
 obtain⟨v,hv⟩:∃v,v=n / 10^ (d-i.toNat):=⟨_,rfl⟩
 rw[<-hv] at ha hb;have ea:a.toNat=2* (v%100)+1:=by omega
 have eb:b.toNat=2* (v%100):=by omega
 obtain⟨t1,t2⟩:=j8z (m:=v%100) (by omega);rw[ea,eb,t1,t2];have hL:=h.buf.1;refine⟨(h.buf.set (by omega) (by omega)).set (by omega) (by omega),λk k1 k2=>?_⟩;rw[jdf (by rw[yI];omega),jdf (by omega)];by_cases g2:1+j2.toNat=1+k
 ·rw[aK g2];have e3:d-1-k=(d-i.toNat)+1:=by omega
  rw[e3,Lq,<-Nat.div_div_eq_div_mul,<-hv]
  congr 2
  omega
 ·rw[aD g2];by_cases g1:1+j1.toNat=1+k
  ·rw[aK g1];have e3:d-1-k=d-i.toNat:=by omega
   rw[e3,<-hv]
   congr 2
   omega
  ·rw[aD g1];exact h.dg k (by omega) k2
def DigInv.one {n d:Nat} {v:Int} {L:List Int} (h:DigInv n d 1 L) (hd:1<=d) (hn:n<10^d) (hv:v=48+ ((n / 10^ (d-1):Nat):Int)):DigInv n d 0 (L.set 1 v):=by
 have hL:=h.buf.1;have hq:n / 10^ (d-1)<10:=by
  rw[qfj (Nat.pow_pos (by decide))];rw[Tu,<-Lq,show(d-1).succ=d by omega];exact hn
 obtain⟨q,hq0⟩:∃q:Nat,q=n / 10^ (d-1):=⟨_,rfl⟩
 rw[<-hq0] at hv hq;refine⟨h.buf.set (by omega) (by omega),λk k1 k2=>?_⟩;rw[jdf (by omega)];by_cases g:1=1+k
 ·rw[aK g];have:k=0:=by omega
  subst this;rw[hv,nN,<-hq0]
  congr 1
  omega
 ·rw[aD g];exact h.dg k (by omega) k2
def DigInv.out {n d:Nat} {L:List Int} (h:DigInv n d 0 L) (hd:d<=20) (e:Lib.nDigits n=d) (hn:n<10^20):(List.take ((1+ (d:Int)).toNat-1) (List.drop 1 L)).map Int.toNat=bV 20 n:=by
 rw[Jg 20 n hn (by decide),Lib.decDigits_eq,e,show(1+ (d:Int)).toNat-1=d by omega];have hL:=h.buf.1;refine qgt (by simp;omega) λk k1 k2=>?_
 have hk:k<d:=by simpa using k2
 have h1:=h.dg k (by omega) hk;obtain⟨h2,h3⟩:=jG.1 h1;simp only[qgu,List.getElem_take,Tn,Tb];rw[h3,Lib.dg];obtain⟨q,hq0⟩:∃q:Nat,q=n / 10^ (d-1-k):=⟨_,rfl⟩
 rw[<-hq0,fF,UInt8.toNat_ofNat'];omega
def j2b {u:Nat} (h1:1<=u) (h2:u<18446744073709551616):Kc fuel (u:Int)=some ((Lib.nDigits u:Nat):Int):=by
 apply Ret.eq;unfold Kc;have e1:Ry fuel (u:Int)=some ((Lib.bitLen u:Nat):Int):=by
  unfold Ry jbi;rw[cK (by omega)];rfl
 have b1:=Lib.bitLen_le u 64 (aU _) (by omega);obtain⟨d1,d2⟩:=Lib.numDigits_eq u h1 h2;rw[e1,aO];have e2:Rf fuel ((Lib.bitLen u:Nat):Int)=some ((Lib.l10 (Lib.bitLen u):Nat):Int):=by
  unfold Rf jbs;rw[cK (by omega)];rfl
 rw[e2,aO];generalize Lib.l10 (Lib.bitLen u)=q at d1 d2 ⊢;have hp:Lb.getD ((q:Int)).toNat 0=((10^q:Nat):Int):=by
  have:(List.range 20).all (λq=>decide (Lb.getD q 0=((10^q:Nat):Int)))=true:=by kernel_rfl
  have:=bS.1 this q (jI.2 (by omega));simpa using this
 rw[hp];refine kN (aS (λg=>?_) λg=>?_)
 ·rw[aK (by omega)] at d1;exact cI (cB (by omega))
 ·rw[aD (by omega)] at d1;exact cI (cB (by omega))
def Ba {u d:Nat} {i j:Int} (h:2<=i) (hd:i<=d) (e:j=i-2):u / 10^ (d-j.toNat)=u / 10^ (d-i.toNat) / 100:=by
 rw[show d-j.toNat=(d-i.toNat)+2 by omega,Nat.pow_add,<-Nat.div_div_eq_div_mul]
def joc {u d:Nat} {i:Int} (h:u<10^d) (h0:0<=i) (hi:i<=d):u / 10^ (d-i.toNat)<10^i.toNat:=by
 rw[qfj (Nat.pow_pos (by decide)),<-Nat.pow_add,show i.toNat+ (d-i.toNat)=d by omega];exact h
def juj:(List.range 100).all (λk=>match jS fuel (k:Int) with
 | some l=>decide (l=bV 20 k)
 | none=>false)=true:=by kernel_rfl
def Hw {n:Int} (h0:0<=n) (h1:n<9223372036854775808):jS fuel n=some (cF n):=by
 by_cases hs:n<100
 ·have:=bS.1 juj n.toNat (jI.2 (by omega));rw[show((n.toNat:Nat):Int)=n by omega] at this;split at this
  ·rename_i l e;rw[e];unfold cF
   congr 1
   exact of_decide_eq_true this
  ·cases this
 obtain⟨u,rfl⟩:∃u:Nat,n=(u:Int):=⟨n.toNat,by omega⟩
 have hdn:cF (u:Int)=bV 20 u:=rfl;apply Ret.eq;unfold jS;simp only[kag,kah,Wv];refine aS (λ_=>aS (λg=>absurd g hs) λ_=>?_) λg=>absurd h0 g
 refine Id (λx=>x=(u:Int)) (λx1 hx=>?_) λj hj=>aS (λg=>absurd g (by omega)) λ_=>hj _ (by omega)
 subst hx;rw[j2b (by omega) (by omega),aO];obtain⟨d,hd⟩:∃d,d=Lib.nDigits u:=⟨_,rfl⟩
 have hu:=Lib.lt_pow_nDigits u;obtain⟨d1,d2⟩:=Lib.numDigits_eq u (by omega) (by omega);have hd20:d<=20:=by
  rw[<-hd] at d1;split at d1<;>omega
 rw[<-hd] at hu ⊢;have out:∀ {L:List Int},DigInv u d 0 L->Ret (aA ((List.take ((1+ (d:Int)).toNat-1) (List.drop 1 L)).all λx=>decide (0<=x)&&decide (x<=255)) (some ((List.take ((1+ (d:Int)).toNat-1) (List.drop 1 L)).map Int.toNat))) λx=>x=cF (u:Int):=λh=>
  bB (h.buf.all _ _) (cB (by rw[h.out hd20 hd.symm (by have:(10:Nat)^20=100000000000000000000:=(by decide);omega)];rfl))
 refine cI (bB (fH.2 ⟨by omega,by omega,by omega⟩) ?_);refine gZ (Inv:=λx:Int×(Int×(List Int))=>0<=x.2.1/\x.2.1<=d/\x.1=((u / 10^ (d-x.2.1.toNat):Nat):Int)/\DigInv u d x.2.1 x.2.2) (m:=λx=>x.2.1.toNat) ?_ _ _ ⟨by simp only;omega,by simp only;omega,by
  simp only;rw[show d-(((1+ (d:Int)).toNat-1:Nat):Int).toNat=0 by omega,Nat.pow_zero,Nat.div_one],⟨by simp[Buf],λk k1 k2=>absurd k1 (by simp only;omega)⟩⟩ (by simp only[fuel];omega)
 rintro ⟨x,i,L⟩ rec ⟨i1,i2,i3,i4⟩ ih;simp only at i1 i2 i3 i4 ⊢;have hlt:=joc hu i1 i2;obtain⟨v,hv⟩:∃v,v=u / 10^ (d-i.toNat):=⟨_,rfl⟩
 have hvu:v<=u:=by rw[hv];exact Nat.div_le_self _ _
 rw[<-hv] at i3 hlt;subst i3;refine aS (λh8=>?_) λh8=>?_
 ·have p2:=Ba (u:=u) (d:=d) (j:=i-2) (by omega) i2 rfl;have p4:=Ba (u:=u) (d:=d) (j:=i-4) (i:=i-2) (by omega) (by omega) (by omega);have p6:=Ba (u:=u) (d:=d) (j:=i-6) (i:=i-4) (by omega) (by omega) (by omega);have p8:=Ba (u:=u) (d:=d) (j:=i-8) (i:=i-6) (by omega) (by omega) (by omega);rw[<-hv] at p2;rw[p2] at p4;rw[p4] at p6;rw[p6] at p8;repeat (refine bB (by first | exact cM (by omega) (by omega) | exact cZ (by omega) (by omega) | exact fH.2 ⟨by omega,by omega,by omega⟩ | (simp only[aN,aH];omega)) ?_)
  refine ih _ ⟨by simp only;omega,by simp only;omega,by simp only;rw[p8];omega,?_⟩ (by simp only;omega);simp only;have q2:=i4.two hd20 (by omega) i2 (j1:=i-1) (j2:=i-2) rfl rfl (a:=((((v:Int)%100000000%4294967296%10000%100*2)%4294967296+1)%4294967296)) (b:=((v:Int)%100000000%4294967296%10000%100*2)%4294967296) (by rw[<-hv];omega) (by rw[<-hv];omega);have q4:=q2.two hd20 (by omega) (by omega) (j1:=i-3) (j2:=i-4) (by omega) (by omega) (a:=((((v:Int)%100000000%4294967296%10000 / 100*2)%4294967296+1)%4294967296)) (b:=((v:Int)%100000000%4294967296%10000 / 100*2)%4294967296) (by rw[p2];omega) (by rw[p2];omega);have q6:=q4.two hd20 (by omega) (by omega) (j1:=i-5) (j2:=i-6) (by omega) (by omega) (a:=((((v:Int)%100000000%4294967296 / 10000%100*2)%4294967296+1)%4294967296)) (b:=((v:Int)%100000000%4294967296 / 10000%100*2)%4294967296) (by rw[p4];omega) (by rw[p4];omega);exact q6.two hd20 (by omega) (by omega) (j1:=i-7) (j2:=i-8) (by omega) (by omega) (a:=((((v:Int)%100000000%4294967296 / 10000 / 100*2)%4294967296+1)%4294967296)) (b:=((v:Int)%100000000%4294967296 / 10000 / 100*2)%4294967296) (by rw[p6];omega) (by rw[p6];omega)
 ·clear ih;have h7:10^i.toNat<=10^7:=Fq (by decide) (by omega);have h7':(10:Nat)^7=10000000:=by decide
  refine Id (λx=>0<=x.1/\x.1<=3/\x.1<=d/\x.2.1=((u / 10^ (d-x.1.toNat):Nat):Int)/\DigInv u d x.1 x.2.2) (λx4 hx4=>?_) λj hj=>?_
  ·obtain⟨i',u',L'⟩:=x4;obtain⟨k1,k2,k3,k4,k5⟩:=hx4;simp only at k1 k2 k3 k4 k5 ⊢;have hl':=joc hu k1 k3;obtain⟨v',hv'⟩:∃v,v=u / 10^ (d-i'.toNat):=⟨_,rfl⟩
   rw[<-hv'] at k4 hl';subst k4;refine aS (λh2=>?_) λh2=>?_
   ·have b3:10^i'.toNat<=10^3:=Fq (by decide) (by omega);have b3':(10:Nat)^3=1000:=by decide
    have p2:=Ba (u:=u) (d:=d) (j:=i'-2) h2 k3 rfl;rw[<-hv'] at p2;have q2:=k5.two hd20 h2 k3 (j1:=i'-1) (j2:=i'-2) rfl rfl (a:=((((v':Int)%100*2)%4294967296+1)%4294967296)) (b:=((v':Int)%100*2)%4294967296) (by rw[<-hv'];omega) (by rw[<-hv'];omega);repeat (refine bB (by first | exact cM (by omega) (by omega) | exact cZ (by omega) (by omega) | exact fH.2 ⟨by omega,by omega,by omega⟩ | (simp only[aN,aH];omega)) ?_)
    refine aS (λh3=>?_) λh3=>?_
    ·have e3:i'=3:=by omega
     subst e3;have q3:=DigInv.one (v:=(48+ (v':Int) / 100)%4294967296%256) q2 (by omega) hu (by
      rw[show d-1=d-((3:Int)-2).toNat by omega,p2];omega)
     repeat (refine bB (by first | exact cM (by omega) (by omega) | exact cZ (by omega) (by omega) | exact fH.2 ⟨by omega,by omega,by omega⟩ | (simp only[aN,aH];omega)) ?_)
     try (refine aS (λg=>absurd g (by omega)) λ_=>?_)
     repeat (refine bB (by first | exact cM (by omega) (by omega) | exact cZ (by omega) (by omega) | exact fH.2 ⟨by omega,by omega,by omega⟩ | (simp only[aN,aH];omega)) ?_)
     exact out q3
    ·have e3:i'=2:=by omega
     subst e3;try (refine aS (λg=>absurd g (by omega)) λ_=>?_)
     repeat (refine bB (by first | exact cM (by omega) (by omega) | exact cZ (by omega) (by omega) | exact fH.2 ⟨by omega,by omega,by omega⟩ | (simp only[aN,aH];omega)) ?_)
     exact out q2
   ·refine aS (λh3=>?_) λh3=>?_
    ·have e3:i'=1:=by omega
     subst e3;have hv9:v'<10:=by simpa using hl'
     have q3:=DigInv.one (v:=(48+ (v':Int))%4294967296%256) k5 (by omega) hu (by
      rw[show d-1=d-(1:Int).toNat by omega,<-hv'];omega)
     repeat (refine bB (by first | exact cM (by omega) (by omega) | exact cZ (by omega) (by omega) | exact fH.2 ⟨by omega,by omega,by omega⟩ | (simp only[aN,aH];omega)) ?_)
     try (refine aS (λg=>absurd g (by omega)) λ_=>?_)
     repeat (refine bB (by first | exact cM (by omega) (by omega) | exact cZ (by omega) (by omega) | exact fH.2 ⟨by omega,by omega,by omega⟩ | (simp only[aN,aH];omega)) ?_)
     exact out q3
    ·have e3:i'=0:=by omega
     subst e3;try (refine aS (λg=>absurd g (by omega)) λ_=>?_)
     repeat (refine bB (by first | exact cM (by omega) (by omega) | exact cZ (by omega) (by omega) | exact fH.2 ⟨by omega,by omega,by omega⟩ | (simp only[aN,aH];omega)) ?_)
     exact out k5
  ·refine aS (λh4=>?_) λh4=>?_
   ·have p2:=Ba (u:=u) (d:=d) (j:=i-2) (by omega) i2 rfl;have p4:=Ba (u:=u) (d:=d) (j:=i-4) (i:=i-2) (by omega) (by omega) (by omega);rw[<-hv] at p2;rw[p2] at p4;repeat (refine bB (by first | exact cM (by omega) (by omega) | exact cZ (by omega) (by omega) | exact fH.2 ⟨by omega,by omega,by omega⟩ | (simp only[aN,aH];omega)) ?_)
    refine hj _ ⟨by simp only;omega,by simp only;omega,by simp only;omega,by simp only;rw[p4];omega,?_⟩;have q2:=i4.two hd20 (by omega) i2 (j1:=i-1) (j2:=i-2) rfl rfl (a:=((((v:Int)%4294967296%10000%100*2)%4294967296+1)%4294967296)) (b:=((v:Int)%4294967296%10000%100*2)%4294967296) (by rw[<-hv];omega) (by rw[<-hv];omega);exact q2.two hd20 (by omega) (by omega) (j1:=i-3) (j2:=i-4) (by omega) (by omega) (a:=((((v:Int)%4294967296%10000 / 100*2)%4294967296+1)%4294967296)) (b:=((v:Int)%4294967296%10000 / 100*2)%4294967296) (by rw[p2];omega) (by rw[p2];omega)
   ·refine hj _ ⟨i1,by simp only;omega,i2,by simp only;rw[<-hv];omega,i4⟩
def jiy:∀(u:Nat),∀c∈Lib.decDigits u,48<=c.toNat/\c.toNat<=57:=by
 intro u;induction u using Nat.strongRecOn with
 | _ u ih=>
   intro c hc;rw[Lib.decDigits] at hc;split at hc
   ·simp at hc;subst hc;simp;omega
   ·rcases aZ.1 hc with h | h
    ·exact ih (u / 10) (by omega) c h
    ·simp at h;subst h;simp;omega
def jxx (u:Nat):Lib.decDigits u≠[]:=by
 rw[Lib.decDigits];split<;>simp
def jnz:∀(l:List UInt8) (acc v:Nat) (c:UInt8),Lib.parseUint10 acc l=.ok v->48<=c.toNat/\c.toNat<=57->v<1844674407370955162->v*10+ (c.toNat-48)<18446744073709551616->Lib.parseUint10 acc (l++[c])=.ok (v*10+ (c.toNat-48))
 | [],acc,v,c,h,hc,h1,h2=>by
   simp only[Lib.parseUint10] at h;injection h with h;subst h;simp only[dZ,Lib.parseUint10];rw[aK hc,aD (by omega),aD (by omega)]
 | b::l,acc,v,c,h,hc,h1,h2=>by
   simp only[eW,Lib.parseUint10] at h ⊢;split at h
   ·rename_i g1;split at h
    ·cases h
    ·rename_i g2;split at h
     ·cases h
     ·rename_i g3;rw[aK g1,aD g2,aD g3];exact jnz l _ v c h hc h1 h2
   ·cases h
def j40:∀(u:Nat),u<9223372036854775808->Lib.parseUint10 0 (Lib.decDigits u)=.ok u:=by
 intro u;induction u using Nat.strongRecOn with
 | _ u ih=>
   intro hu;rw[Lib.decDigits];split
   ·rename_i g;simp only[Lib.parseUint10];have e:(UInt8.ofNat (48+u)).toNat=48+u:=by simp;omega
    rw[e,aK (by omega),aD (by omega),aD (by omega)]
    congr 1;omega
   ·have e:(UInt8.ofNat (48+u%10)).toNat=48+u%10:=by simp;omega
    have:=jnz (Lib.decDigits (u / 10)) 0 (u / 10) (UInt8.ofNat (48+u%10)) (ih (u / 10) (by omega) (by omega)) (by rw[e];omega) (by omega) (by rw[e];omega);rw[this,e]
    congr 1;omega
def Yk {u:Nat} (hu:u<9223372036854775808):Lib.atoiAll (Lib.decDigits u)=.ok (u:Int):=by
 have h1:=j40 u hu;have h2:=jiy u;have h3:=jxx u;generalize Lib.decDigits u=l at h1 h2 h3 ⊢
 match l,h3 with
 | c::r,_=>
   have hc:=h2 c bY;unfold Lib.atoiAll;simp only;rw[aD (by omega)];have hp:Lib.parseMag (c::r)=.ok u:=by
    unfold Lib.parseMag;rw[aD (by simp)];exact h1
   rw[hp];simp only;rw[aD (by omega),aD (by omega),aD (by omega)]
def zX {u:Nat} (hu:u<9223372036854775808):bV 20 u=(Lib.decDigits u).map UInt8.toNat:=
 Jg 20 u (by have:(10:Nat)^20=100000000000000000000:=(by decide);omega) (by decide)
def Zh {u v:Nat} (hu:u<9223372036854775808) (hv:v<9223372036854775808) (h:bV 20 u=bV 20 v):u=v:=by
 rw[zX hu,zX hv] at h;have h1:=congrArg u8 h;rw[Is,Is] at h1;have h2:=Yk hu;rw[h1,Yk hv] at h2;injection h2 with h2;omega
def sC {u:Nat} (hu:u<9223372036854775808):∀c∈bV 20 u,48<=c/\c<=57:=by
 rw[zX hu];intro c hc;obtain⟨b,hb,rfl⟩:=bU.1 hc;exact jiy u b hb
def jxu {u:Nat} (hu:u<9223372036854775808) (h:(bV 20 u).length<=9):u<1000000000:=by
 rw[zX hu,dM,Lib.decDigits_length] at h;have h1:=Lib.lt_pow_nDigits u;have h2:(10:Nat)^Lib.nDigits u<=10^9:=Fq (by decide) h;have h3:(10:Nat)^9=1000000000:=by decide
 omega
open Classical in
noncomputable def kU (s:List Nat):Option Nat:=if h:∃u:Nat,s=bV 20 u/\u<1000000000/\s.length<=9 then some h.choose else none
def xY {s:List Nat} {u:Nat}:kU s=some u↔s=bV 20 u/\u<1000000000/\s.length<=9:=by
 unfold kU;constructor
 ·intro h;split at h
  ·rename_i g;have:=g.choose_spec;cases h;exact this
  ·cases h
 ·rintro ⟨h1,h2,h3⟩;have g:∃u:Nat,s=bV 20 u/\u<1000000000/\s.length<=9:=⟨u,h1,h2,h3⟩
  rw[dif_pos g];have h4:=g.choose_spec
  congr 1
  exact Zh (by omega) (by omega) (h4.1.symm.trans h1)
def Ko {s:List Nat} (h:∀u,s=bV 20 u->u<1000000000->s.length<=9->False):kU s=none:=by
 cases e:kU s with
 | none=>rfl
 | some u=>obtain⟨h1,h2,h3⟩:=xY.1 e;exact absurd (h u h1 h2 h3) id
def j2e {s:List Nat} (hl:s.length<=1000000) (hb:∀x∈s,x<256):
  (∃u:Nat,kU s=some u/\u<1000000000/\rJ fuel s=some ((u:Int),true)/\s.length<=9/\jS fuel (u:Int)=some s)\/
  (kU s=none/\∃r,rJ fuel s=some r/\(r.2=false\/r.1<0\/9<s.length\/(0<=r.1/\∃t,jS fuel r.1=some t/\t≠s))):=by
 have ha:rJ fuel s=Ir s:=rfl;rw[ha];unfold Ir;rw[aP,cK hl,aB];by_cases h9:s.length<=9
 ·cases e:kU s with
  | some u=>
    obtain⟨h1,h2,h3⟩:=xY.1 e;have e2:u8 s=Lib.decDigits u:=by rw[h1,zX (by omega),Is]
    refine .inl ⟨u,rfl,h2,?_,h9,?_⟩
    ·rw[e2,Yk (by omega)]
    ·rw[Hw (by omega) (by omega),h1];rfl
  | none=>
    refine .inr ⟨rfl,?_⟩;cases ea:Lib.atoiAll (u8 s) with
    | «syntax»=>exact⟨_,rfl,.inl rfl⟩
    | range=>exact⟨_,rfl,.inl rfl⟩
    | ok v=>
      refine⟨_,rfl,?_⟩;by_cases hv:v<0
      ·exact .inr (.inl hv)
      ·have hb2:=Lib.atoiAll_bounds ea;refine .inr (.inr (.inr ⟨by simp only;omega,_,Hw (by simp only;omega) (by simp only;omega),λg=>?_⟩));have h1:s=bV 20 v.toNat:=g.symm;have h2:=jxu (u:=v.toNat) (by omega) (by rw[<-h1];exact h9);rw[xY.2 ⟨h1,h2,h9⟩] at e;cases e
 ·refine .inr ⟨Ko λu _ _ h=>absurd h h9,?_⟩;cases ea:Lib.atoiAll (u8 s) with
  | «syntax»=>exact⟨_,rfl,.inl rfl⟩
  | range=>exact⟨_,rfl,.inl rfl⟩
  | ok v=>exact⟨_,rfl,.inr (.inr (.inl (by omega)))⟩
def j0s:Kg fuel ()=some true:=by kernel_rfl
end X
end Go.Vm
namespace Go.Vm
namespace X
open W Go.RowKit
def jai {s:List Nat} {i:Nat} (h:i<s.length):s.getD ((i:Int)).toNat 0=s[i]:=by
 simp[List.getD,dK h]
def jot {s:List Nat} (hl:s.length<=1000000000) (hb:∀x∈s,x<256):Br fuel s=some (dE s):=by
 apply Ret.eq;unfold Br;refine gZ (λp:Int×Int=>∃i:Nat,i<=s.length/\(s.take i).foldl (Lz s.length) (17,0)=p/\p.2=i/\0<=p.1/\p.1<65521) (λp=>s.length-p.2.toNat) ?_ fuel (17,0) ⟨0,fM _,rfl,rfl,by decide,by decide⟩ (by simp only[fuel];omega);rintro ⟨n,i'⟩ rec ⟨i,hi,hf,e,h0,h1⟩ ih;simp only at e h0 h1 ⊢;subst e;refine aS (λhlt=>?_) λhge=>cB ?_
 ·have hlt:i<s.length:=by omega
  rw[jai hlt];have hx:=hb _ (dU hlt);obtain⟨c,hc⟩:∃c:Nat,c=s[i] * (17+s.length-i):=⟨_,rfl⟩
  have e1:((s[i]:Nat):Int)* (17+ (s.length:Int)-(i:Int))=(c:Int):=by
   rw[hc,Lk]
   congr 1
   omega
  have hcb:c<=255*1000000017:=by
   rw[hc];exact pU (by omega) (by omega)
  rw[e1];refine cI (kN (cI (cI (cI (cI (cI (bB (by simp;omega) (cI ?_))))))));refine ih _ ⟨i+1,hlt,?_,by simp,by simp only;omega,by simp only;omega⟩ (by simp only;omega);rw[Fy,dK hlt,Be,qgk,hf];simp only[Ll,List.foldl_nil,Lz];rw[e1]
 ·have:i=s.length:=by omega
  subst this;rw[mC] at hf;rw[j8a,hf];omega
def jdx {s:List Nat} (hl:s.length<=1000000000):Ca s=some (dE s):=by
 unfold Ca;rw[aP,cK hl];rfl
def jlv:Ret ((Kg fuel ()).bind λr=>some r) λx=>x=true:=by rw[j0s];exact cB rfl
end X
end Go.Vm
namespace Go.Vm
namespace X
open W Go.Proofs.Un
def jgr {α:Type} {r:α->α->Bool} (tr:∀x y z,r x y=true->r y z=true->r x z=true):∀ {l:List α},qF r l=true->l.Pairwise λx y=>r x y=true
 | [],_=>List.Pairwise.nil
 | x::l,h=>by
   simp only[qF,aN] at h;have ih:=jgr tr h.2;refine mT.2 ⟨λy hy=>?_,ih⟩;cases l with
   | nil=>cases hy
   | cons z l=>
     rcases bL.1 hy with e | hy
     ·rw[e];exact h.1
     ·exact tr _ _ _ h.1 ((mT.1 ih).1 y hy)
def jg1 {x y:bW}:Yj x y=true↔x.1<y.1\/x.1=y.1/\x.2<y.2:=by
 simp[Yj]
def Nx (x y:aW):Prop:=x.2.1.1<y.2.1.1\/x.2.1.1=y.2.1.1/\(x.2.1.2<y.2.1.2\/x.2.1.2=y.2.1.2/\x.2.2.2<=y.2.2.1)
def jmw {x y:aW}:nxt x y=true↔Nx x y:=by
 simp[nxt,Nx]
structure LiOK (w h:Nat) (x:aW):Prop where
 k1:1<=x.2.1.1
 k4:x.2.1.1<=4
 c0: -(w:Int)<=x.2.1.2
 c1:x.2.1.2<=(w:Int)+h
 f0:0<=x.2.2.1
 ft:x.2.2.1<x.2.2.2
 t1:x.2.2.2<=2* ((w:Int)+h)
 u0:0<=x.1.1
 u1:x.1.1<4* (w:Int)*h
 e0:0<=x.1.2
 e2:x.1.2<=2
section
variable {w h:Nat} {T:List aW}
def Tab.li (t:Tab w h T) {x:aW} (hx:x∈T):LiOK w h x:=by
 have:=bS.1 t.ok x hx;simp only[jno,aN,aH] at this;obtain⟨⟨⟨⟨⟨⟨⟨⟨⟨⟨a1,a2⟩,a3⟩,a4⟩,a5⟩,a6⟩,a7⟩,a8⟩,a9⟩,a10⟩,a11⟩:=this;exact⟨a1,a2,a3,a4,a5,a6,a7,a8,a9,a10,a11⟩
def Tab.asc (t:Tab w h T):(T.map (·.1)).Pairwise λx y=>x.1<y.1\/x.1=y.1/\x.2<y.2:=
 (jgr (λx y z h1 h2=>by rw[jg1] at *;omega) t.up).imp λh=>jg1.1 h
def Tab.ndU (t:Tab w h T):(T.map (·.1)).Nodup:=t.asc.imp λ{a b} h e=>by subst e;omega
def Sb {α:Type} {l:List α} (h:l.Nodup) {i j:Nat} (hi:i<l.length) (hj:j<l.length) (e:l[i]=l[j]):i=j:=by
 rcases Bf i j with g | g | g
 ·exact absurd e (pQ.1 h i j hi hj g)
 ·exact g
 ·exact absurd e.symm (pQ.1 h j i hj hi g)
def Tab.unitInj (t:Tab w h T) {x y:aW} (hx:x∈T) (hy:y∈T) (e:x.1=y.1):x=y:=by
 obtain⟨i,hi,rfl⟩:=mS hx;obtain⟨j,hj,rfl⟩:=mS hy;have h1:(T.map (·.1))[i]'(by simpa using hi)=(T.map (·.1))[j]'(by simpa using hj):=by simpa using e
 have:=Sb t.ndU _ _ h1;subst this;rfl
def job {α:Type} {r:α->α->Bool}:∀ {l:List α},Sv r l=true->l.Pairwise λx y=>r x y=true
 | [],_=>List.Pairwise.nil
 | x::l,h=>by
   simp only[Sv,aN] at h;exact mT.2 ⟨λy hy=>bS.1 h.1 y hy,job h.2⟩
def Tab.key (t:Tab w h T):KeyD T:=(job t.kd).imp λ{x y} h ⟨h1,h2⟩=>by
 simp[jle,h1,h2] at h
def Tab.len (t:Tab w h T) (hw:w<=6) (hh:h<=6):T.length<=1000:=by
 have hn:=t.ndU;have:(T.map (·.1)).length<=1000:=by
  have hsub:∀u∈T.map (·.1),u∈((List.range 144).flatMap fun(i:Nat)=>(List.range 3).map fun(e:Nat)=>(((i:Nat):Int),((e:Nat):Int))):=by
   intro u hu;obtain⟨x,hx,rfl⟩:=bU.1 hu;have:=t.li hx;have h1:=this.u0;have h2:=this.u1;have h3:=this.e0;have h4:=this.e2
   have h5:4* (w:Int)*h<=4*6*6:=by
    have:w*h<=6*6:=pU hw hh;have e:(4* (w:Int)*h)=4* ((w*h:Nat):Int):=by rw[Lk,Uc]
    omega
   refine yH.2 ⟨x.1.1.toNat,jI.2 (by omega),bU.2 ⟨x.1.2.toNat,jI.2 (by omega),?_⟩⟩;exact oP (by simp only;omega) (by simp only;omega)
  have:=hn.length_le_of_subset hsub;exact eA this (by decide +kernel)
 simpa using this
def j45 (t:Tab w h T) (hw:1<=w/\w<=6) (hh:1<=h/\h<=6):Ux fuel ((w:Int),(h:Int))=some (tS T):=by
 have hlen:=t.len hw.2 hh.2;apply Ret.eq;unfold Ux;rw[t.us,aO];refine gZ (λs:Int×List (((Int×Int)×Int)×((Int×Int)×Int))=>∃i:Nat,s.1=(i:Int)/\i<=T.length/\s.2=tS (T.take i)) (λs=>T.length-s.1.toNat) ?_ fuel _ ⟨0,rfl,fM _,rfl⟩ (by simp only[fuel];omega);rintro ⟨s1,s2⟩ rec ⟨i,h1,h2,h3⟩ hrec;simp only at h1 h3 ⊢;subst h1;subst h3;refine aS (λhlt=>?_) λhge=>?_
 ·rw[dM] at hlt;have hi:i<T.length:=by omega
  have hx:(T.map (·.1)).getD ((i:Int).toNat) (0,0)=T[i].1:=by
   rw[fF,jF,jH,dK hi];rfl
  rw[hx];have hl:=bS.1 t.lie _ (dU hi);unfold jbj at hl;refine bB (cZ (by omega) (by rw[dM];exact hlt)) ?_;split at hl
  rotate_left
  ·cases hl
  rename_i r hr;rw[hr,aO];simp only[aN,aH] at hl;obtain⟨⟨⟨l1,l2⟩,l3⟩,l4⟩:=hl;refine cI (hrec _ ⟨i+1,by simp,hi,?_⟩ (by simp only;omega));rw[l1,l2,l3,l4,Nu T i hi,jmn]
  ·unfold tS;rw[fY];rfl
  ·intro a ha;obtain⟨y,hy,rfl⟩:=bU.1 ha;cases hq:KT.eqb ((T[i].2.1.1,T[i].2.1.2),T[i].2.2.1) (y.2.1,y.2.2.1) with
   | false=>rfl
   | true=>
     have e:=(Zv _ _).1 hq;simp only[aM] at e;obtain⟨j,hj,hjy⟩:=qgf.1 hy;have hkd:=pQ.1 t.key j i (by omega) hi (by omega);rw[hjy] at hkd;exact absurd (And.intro e.1.symm e.2.symm) hkd
 ·have hi:i=T.length:=by rw[dM] at hge;omega
  subst hi;rw[mC];exact cB rfl
end
end X
end Go.Vm
namespace Go.Vm
namespace X
open W
def TB (T:List aW):Prop:=∀x∈T,0<=x.2.2.1/\x.2.2.1<x.2.2.2/\x.2.2.2<=24
def Tab.tb {w h:Nat} {T:List aW} (t:Tab w h T) (hw:w<=6) (hh:h<=6):TB T:=λx hx=>by
 have:=t.li hx;exact⟨this.f0,this.ft,by have:=this.t1;omega⟩
def wk (T:List aW) (l:Int×Int) (tq:Int):Nat->Int->Option (List bW)
 | 0,_=>none
 | n+1,p=>if p=tq then some [] else match gQ T l p with
   | none=>none
   | some x=>if tq<x.2.2.2 then none else(wk T l tq n x.2.2.2).map (x.1::·)
def mm (p:Int):Nat:=if 0<=p/\p<=24 then(24-p).toNat+1 else 26
def jrn {T:List aW} (hT:TB T) {l:Int×Int} {tq:Int}:∀(n m:Nat) (p:Int),mm p<=n->mm p<=m->wk T l tq n p=wk T l tq m p
 | 0,_,p,h,_=>by unfold mm at h;split at h<;>omega
 | n+1,0,p,_,h=>by unfold mm at h;split at h<;>omega
 | n+1,m+1,p,hn,hm=>by
   simp only[wk];split
   ·rfl
   ·cases hl:gQ T l p with
    | none=>rfl
    | some x=>
      obtain⟨h1,h2,h3⟩:=sJ hl;obtain⟨b1,b2,b3⟩:=hT x h1;have e:mm x.2.2.2+1<=mm p:=by
       unfold mm;rw[aK (by omega),aK (by omega)];omega
      simp only;rw[jrn hT n m x.2.2.2 (by omega) (by omega)]
def kM (T:List aW) (l:Int×Int) (tq p:Int):Option (List bW):=wk T l tq (mm p) p
def Co {T:List aW} (hT:TB T) (l:Int×Int) (tq p:Int):kM T l tq p=if p=tq then some [] else match gQ T l p with
  | none=>none
  | some x=>if tq<x.2.2.2 then none else(kM T l tq x.2.2.2).map (x.1::·):=by
 unfold kM;cases hm:mm p with
 | zero=>unfold mm at hm;split at hm<;>omega
 | succ n=>
   simp only[wk];split
   ·rfl
   ·cases hl:gQ T l p with
    | none=>rfl
    | some x=>
      obtain⟨h1,h2,h3⟩:=sJ hl;obtain⟨b1,b2,b3⟩:=hT x h1;have e:mm x.2.2.2+1<=mm p:=by
       unfold mm;rw[aK (by omega),aK (by omega)];omega
      simp only;rw[jrn hT n (mm x.2.2.2) x.2.2.2 (by omega) (aU _)]
abbrev bJ:=Int×((Int×Int)×(Int×Int))
structure OrdP (x:bJ):Prop where
 k1:1<=x.1
 k3:x.1<=3
 l1:1<=x.2.1.1
 l4:x.2.1.1<=4
 c0: -4096<=x.2.1.2
 c1:x.2.1.2<=4096
 ft:x.2.2.1<x.2.2.2
open Classical in
noncomputable def gA (T:List aW) (x:bJ):List bW×Int:=if OrdP x then(match kM T x.2.1 x.2.2.2 x.2.2.1 with
 | none=>([],7)
 | some u=>(u,0)) else([],1)
def jlr (l:Int×Int):El fuel l=some 0/\(1<=l.1/\l.1<=4/\ -4096<=l.2/\l.2<=4096)\/El fuel l=some 1/\¬(1<=l.1/\l.1<=4/\ -4096<=l.2/\l.2<=4096):=by
 unfold El;by_cases h1:l.1<1
 ·simp only[h1,bA,aB];exact .inr ⟨trivial,by omega⟩
 by_cases h2:4<l.1
 ·simp only[h1,h2,bA,bM,aB,aF];exact .inr ⟨trivial,by omega⟩
 by_cases h3:l.2 < -4096
 ·simp only[h1,h2,h3,bA,bM,aB,aF];exact .inr ⟨trivial,by omega⟩
 by_cases h4:4096<l.2
 ·simp only[h1,h2,h3,h4,bA,bM,aB,aF];exact .inr ⟨trivial,by omega⟩
 simp only[h1,h2,h3,h4,bM,aF];exact .inl ⟨trivial,by omega⟩
def jns (x:bJ):∃b,Mn fuel x=some b/\(b=true↔OrdP x):=by
 unfold Mn;by_cases h1:1<=x.1
 rotate_left
 ·simp only[h1,bM,aF];exact⟨_,rfl,by simp;intro h;exact h1 h.k1⟩
 by_cases h2:x.1<=3
 rotate_left
 ·simp only[h1,h2,bA,bM,aB,aF];exact⟨_,rfl,by simp;intro h;exact h2 h.k3⟩
 simp only[h1,h2,bA,aB];rcases jlr (x.2.1.1,x.2.1.2) with⟨e,g⟩ | ⟨e,g⟩
 ·rw[e,aO];simp only[bA,aB];simp only at g;exact⟨_,rfl,by simp only[aH];exact⟨λh=>⟨h1,h2,g.1,g.2.1,g.2.2.1,g.2.2.2,h⟩,λh=>h.ft⟩⟩
 ·rw[e,aO];simp only[show((1:Int)=0)=False by simp,bM,aF];exact⟨_,rfl,by simp;intro h;exact g ⟨h.l1,h.l4,h.c0,h.c1⟩⟩
section
variable {w h:Nat} {T:List aW}
def Bw (hw:1<=w/\w<=6) (hh:1<=h/\h<=6):iN fuel ((w:Int),(h:Int))=some 0:=by
 unfold iN;have h5:w*h<=6*6:=pU hw.2 hh.2;have e:((w:Int)*h)=((w*h:Nat):Int):=by rw[Lk]
 have n1:¬((w:Int)<1):=by omega
 have n2:¬((h:Int)<1):=by omega
 have n3:¬((256:Int)<w):=by omega
 have n4:¬((256:Int)<h):=by omega
 have n5:¬((256:Int)< (w:Int)*h):=by omega
 simp only[n1,n2,n3,n4,bM,aF];rw[cM (by omega) (by omega)];simp only[aA,aB,n5,bM,aF]
end
def j6t (l:Int×Int):vU fuel l=some 1/\(1<=l.1/\l.1<=4/\ -4096<=l.2/\l.2<=4096)\/vU fuel l=some 0/\¬(1<=l.1/\l.1<=4/\ -4096<=l.2/\l.2<=4096):=by
 by_cases h1:1<=l.1
 rotate_left
 ·exact .inr ⟨by unfold vU;simp only[h1,bM,aF],by omega⟩
 by_cases h2:l.1<=4
 rotate_left
 ·exact .inr ⟨by unfold vU;simp only[h1,h2,bA,bM,aB,aF],by omega⟩
 by_cases h3: -4096<=l.2
 rotate_left
 ·exact .inr ⟨by unfold vU;simp only[h1,h2,h3,bA,bM,aB,aF],by omega⟩
 by_cases h4:l.2<=4096
 rotate_left
 ·exact .inr ⟨by unfold vU;simp only[h1,h2,h3,h4,bA,bM,aB,aF],by omega⟩
 exact .inl ⟨by unfold vU;simp only[h1,h2,h3,h4,bA,aB],by omega⟩
section
variable {w h:Nat} {T:List aW}
def j6p (t:Tab w h T) (hw:1<=w/\w<=6) (hh:1<=h/\h<=6) (x:bJ):Up fuel (((w:Int),(h:Int)),x)=some (gA T x):=by
 unfold Up gA;simp only;by_cases h1:x.1<1
 ·simp only[h1,bA,aB];rw[aD λh=>by have:=h.k1;omega]
 by_cases h2:3<x.1
 ·simp only[h1,h2,bA,bM,aB,aF];rw[aD λh=>by have:=h.k3;omega]
 simp only[h1,h2,bM,aF];rcases j6t (x.2.1.1,x.2.1.2) with⟨e,g⟩ | ⟨e,g⟩
 rotate_left
 ·rw[e,aO];simp only[bA,aB];rw[aD λh=>g ⟨h.l1,h.l4,h.c0,h.c1⟩]
 rw[e,aO];simp only at g;simp only[show((1:Int)=0)=False by simp,bM,aF];by_cases h3:x.2.2.2<=x.2.2.1
 ·simp only[h3,bA,aB];rw[aD λh=>by have:=h.ft;omega]
 simp only[h3,bM,aF];rw[aK ⟨by omega,by omega,g.1,g.2.1,g.2.2.1,g.2.2.2,by omega⟩];rw[t.all,aO];have hT:=t.tb hw.2 hh.2;have hlen:=t.len hw.2 hh.2
 refine(Ep (λs:List bW×Int=>(s.1=[]/\s.2<=x.2.2.2\/(0<=s.2/\s.2<=24/\s.1.length<=s.2.toNat))) (λs=>mm s.2) (λs=>some (match (if s.2<=x.2.2.2 then kM T x.2.1 x.2.2.2 s.2 else none) with
  | none=>(([]:List bW),(7:Int))
  | some u=>(s.1++u,0))) ?_ fuel ([],x.2.2.1) (.inl ⟨rfl,by simp only;omega⟩) (by unfold mm;simp only[fuel];split<;>omega)).trans (by simp only[show x.2.2.1<=x.2.2.2 by omega,bR,dZ]<;>cases kM T x.2.1 x.2.2.2 x.2.2.1<;>rfl)
 rintro ⟨A,p⟩ rec hI hrec;simp only at hI ⊢;by_cases hp:p<x.2.2.2
 ·simp only[hp,bA,aB,show p<=x.2.2.2 by omega,bR];rw[jfj (by omega),Co hT,aO,aD (show ¬p=x.2.2.2 by omega)];rw[show(x.2.1.1,x.2.1.2)=x.2.1 from rfl];cases hl:gQ T x.2.1 p with
  | none=>rfl
  | some y=>
    obtain⟨g1,g2,g3⟩:=sJ hl;obtain⟨b1,b2,b3⟩:=hT y g1;simp only[show((1:Int)=0)=False by simp,bM,aF];have hA:A.length<=p.toNat:=by rcases hI with⟨e,_⟩ | ⟨_,_,e⟩<;>(try subst e)<;>(try simp)<;>omega
    rw[oF (by omega)];simp only[aA,aB];rw[hrec (A++[y.1],y.2.2.2) (.inr ⟨by simp only;omega,by simp only;omega,by simp only[dS,kC];omega⟩) (by
     unfold mm;simp only;rw[aK (by omega),aK (by omega)];omega)]
    simp only;by_cases hq:x.2.2.2<y.2.2.2
    ·rw[aD (by omega),aK hq]
    ·rw[aK (by omega),aD hq];cases kM T x.2.1 x.2.2.2 y.2.2.2 with
     | none=>rfl
     | some u=>simp
 ·simp only[hp,bM,aF];by_cases he:p=x.2.2.2
  ·subst he;simp only[ne_eq,rA,bM,aF,Lt,bR];rw[Co hT,aK rfl];simp
  ·simp only[he,ne_eq,sS,bA,aB,show ¬p<=x.2.2.2 by omega,cO]
def jrl {T:List aW} (hT:TB T) {l:Int×Int} {tq:Int} (h24:24<tq):∀(n:Nat) (p:Int),p<tq->wk T l tq n p=none
 | 0,_,_=>rfl
 | n+1,p,hp=>by
   simp only[wk];rw[aD (by omega)];cases hl:gQ T l p with
   | none=>rfl
   | some x=>
     obtain⟨h1,h2,h3⟩:=sJ hl;obtain⟨b1,b2,b3⟩:=hT x h1;simp only;rw[jrl hT h24 n x.2.2.2 (by omega)];split<;>rfl
def jfc {T:List aW} (hT:TB T) {l:Int×Int} {tq:Int}:∀(n:Nat) (p:Int) (u:List bW),wk T l tq n p=some u->u=[]\/(0<=p/\p<24/\u.length<=(24-p).toNat)
 | 0,_,_,h=>by cases h
 | n+1,p,u,h=>by
   simp only[wk] at h;split at h
   ·cases h;exact .inl rfl
   ·cases hl:gQ T l p with
    | none=>rw[hl] at h;cases h
    | some x=>
      obtain⟨h1,h2,h3⟩:=sJ hl;obtain⟨b1,b2,b3⟩:=hT x h1;rw[hl] at h;simp only at h;split at h
      ·cases h
      ·obtain⟨v,hv,rfl⟩:=cX.1 h;right;rcases jfc hT n _ v hv with rfl | ⟨g1,g2,g3⟩
       ·simp only[dG,iT];omega
       ·simp only[dG];omega
def kad {T:List aW} (hT:TB T) (x:bJ):(gA T x).1.length<=24:=by
 unfold gA;by_cases ho:OrdP x
 ·rw[aK ho];cases hu:kM T x.2.1 x.2.2.2 x.2.2.1 with
  | none=>simp
  | some u=>
    rcases jfc hT _ _ _ hu with rfl | ⟨g1,g2,g3⟩
    ·simp
    ·simp only;omega
 ·rw[aD ho];simp
def kab (hT:TB T) {x:bJ} (hx:64<x.2.2.2\/x.2.2.1 < -64):(gA T x).2≠0:=by
 unfold gA;split
 ·rename_i ho;have:kM T x.2.1 x.2.2.2 x.2.2.1=none:=by
   rcases hx with hx | hx
   ·exact jrl hT (by omega) _ _ ho.ft
   ·rw[Co hT,aD (by have:=ho.ft;omega)];cases hl:gQ T x.2.1 x.2.2.1 with
    | none=>rfl
    | some y=>
      obtain⟨g1,g2,g3⟩:=sJ hl;have:=(hT y g1).1;omega
  rw[this];simp
 ·simp
end
def fR {a:Int} {m:Nat} (h:((List.range m).all λk=>eU ((k:Int)+a))=true) {n:Int} (h1:a<=n) (h2:n<a+m):eU n=true:=by
 have:=bS.1 h (n-a).toNat (jI.2 (by omega));rw[show(((n-a).toNat:Nat):Int)+a=n by omega] at this;exact this
def j2d {n:Int} (h1: -4096<=n) (h2:n<=4096):eU n=true:=by
 by_cases g1_0:n < -3840
 ·exact fR j1d (by omega) (by omega)
 by_cases g1_1:n < -3584
 ·exact fR j1e (by omega) (by omega)
 by_cases g1_2:n < -3328
 ·exact fR j1f (by omega) (by omega)
 by_cases g1_3:n < -3072
 ·exact fR j1g (by omega) (by omega)
 by_cases g1_4:n < -2816
 ·exact fR j1h (by omega) (by omega)
 by_cases g1_5:n < -2560
 ·exact fR j1i (by omega) (by omega)
 by_cases g1_6:n < -2304
 ·exact fR j1j (by omega) (by omega)
 by_cases g1_7:n < -2047
 ·exact fR j1k (by omega) (by omega)
 by_cases g2_0:n < -1791
 ·exact fR j1l (by omega) (by omega)
 by_cases g2_1:n < -1535
 ·exact fR j1m (by omega) (by omega)
 by_cases g2_2:n < -1279
 ·exact fR j1n (by omega) (by omega)
 by_cases g2_3:n < -1023
 ·exact fR j1o (by omega) (by omega)
 by_cases g2_4:n < -767
 ·exact fR j1p (by omega) (by omega)
 by_cases g2_5:n < -511
 ·exact fR j1q (by omega) (by omega)
 by_cases g2_6:n < -255
 ·exact fR j1r (by omega) (by omega)
 by_cases g2_7:n<1
 ·exact fR j1s (by omega) (by omega)
 by_cases g3_0:n<257
 ·exact fR j1t (by omega) (by omega)
 by_cases g3_1:n<513
 ·exact fR j1u (by omega) (by omega)
 by_cases g3_2:n<769
 ·exact fR j1v (by omega) (by omega)
 by_cases g3_3:n<1025
 ·exact fR j1w (by omega) (by omega)
 by_cases g3_4:n<1281
 ·exact fR j1x (by omega) (by omega)
 by_cases g3_5:n<1537
 ·exact fR j1y (by omega) (by omega)
 by_cases g3_6:n<1793
 ·exact fR j1z (by omega) (by omega)
 by_cases g3_7:n<2049
 ·exact fR j10 (by omega) (by omega)
 by_cases g4_0:n<2305
 ·exact fR j13 (by omega) (by omega)
 by_cases g4_1:n<2561
 ·exact fR j14 (by omega) (by omega)
 by_cases g4_2:n<2817
 ·exact fR j15 (by omega) (by omega)
 by_cases g4_3:n<3073
 ·exact fR j16 (by omega) (by omega)
 by_cases g4_4:n<3329
 ·exact fR j17 (by omega) (by omega)
 by_cases g4_5:n<3585
 ·exact fR j18 (by omega) (by omega)
 by_cases g4_6:n<3841
 ·exact fR j19 (by omega) (by omega)
 exact fR j2a (by omega) (by omega)
end X
end Go.Vm
namespace Go.Vm
namespace X
open W Go.RowKit
def jjg:∀ {a b:List Nat},Qh a b=true->a=b
 | [],[],_=>rfl
 | [],b::m,h=>by cases h
 | a::l,[],h=>by cases h
 | a::l,b::m,h=>by
   simp only[Qh,aN] at h;rw[rB h.1,jjg h.2]
def nm (n:Int):List Nat:=(jS fuel n).getD []
structure NumOK (n:Int):Prop where
 it:jS fuel n=some (nm n)
 de:oQ fuel n=some (nm n)
 at':rJ fuel (nm n)=some (n,true)
 ch:∀y∈nm n,45<=y/\y<=57
 ne:1<=(nm n).length
 le:(nm n).length<=5
 l1:Go.Proofs.S07.lpFin (120::32::nm n)=(1,n)
 l2:Go.Proofs.S07.lpFin (121::32::nm n)=(2,n)
 l3:Go.Proofs.S07.lpFin (117::32::nm n)=(3,n)
 l4:Go.Proofs.S07.lpFin (100::32::nm n)=(4,n)
def Rv {k:Int} {b:Nat} {n:Int} {s:List Nat} (h:Es k b n s=true):Go.Proofs.S07.lpFin (b::32::s)=(k,n):=by
 unfold Es at h;split at h;rename_i a c e;simp only[aN,xF,aH] at h;rw[e,h.1,h.2]
def iS {n:Int} (h1: -4096<=n) (h2:n<=4096):NumOK n:=by
 have h:=j2d h1 h2;unfold eU at h;cases hs:jS fuel n with
 | none=>rw[hs] at h;cases h
 | some s=>
   have en:nm n=s:=by unfold nm;rw[hs];rfl
   rw[hs] at h;simp only[aN] at h;obtain⟨⟨⟨⟨⟨⟨a1,a2⟩,a3⟩,a4⟩,a5⟩,a6⟩,a7⟩:=h;unfold jk0 at a3;simp only[aN,bS,aP,aH] at a3;obtain⟨⟨b1,b2⟩,b3⟩:=a3;refine⟨by rw[en];exact hs,?_,?_,λy hy=>?_,by rw[en];exact b2,by rw[en];exact b3,by rw[en];exact Rv a4,by rw[en];exact Rv a5,by rw[en];exact Rv a6,by rw[en];exact Rv a7⟩
   ·rw[en];cases hd:oQ fuel n with
    | none=>rw[hd] at a1;cases a1
    | some t=>rw[hd] at a1;rw[jjg a1]
   ·rw[en];cases hd:rJ fuel s with
    | none=>rw[hd] at a2;cases a2
    | some r=>
      obtain⟨a,b⟩:=r;rw[hd] at a2;simp only[aN,xF,aH] at a2;rw[a2.1,a2.2]
   ·rw[en] at hy;have:=b1 y hy;omega
def VL (l:Int×Int):Prop:=1<=l.1/\l.1<=4/\ -4096<=l.2/\l.2<=4096
def iG (k:Int):Nat:=([32,120,121,117,100]:List Nat).getD k.toNat 0
def jD (l:Int×Int):List Nat:=iG l.1::32::nm l.2
def jrs {k:Int} (h:0<=k) (h2:k<=254):IntKind.u8.wrap (k+1)=k+1:=by
 unfold IntKind.wrap;simp[IntKind.bits,IntKind.signed];omega
def jbn (l:Int×Int):VL l/\tR fuel l=some (jD l)\/¬VL l/\tR fuel l=some []:=by
 rcases jlr l with⟨e,h⟩ | ⟨e,h⟩
 ·left;refine⟨h,?_⟩;obtain⟨h1,h2,h3,h4⟩:=h;have hn:=iS h3 h4;have hle:=hn.le;unfold tR;rw[show((l.1,l.2):Int×Int)=l from rfl,e,aO];have hw:=jrs (k:=l.1) (by omega) (by omega);rw[hw,hn.it,aO];have hk:l.1=1\/l.1=2\/l.1=3\/l.1=4:=by omega
  unfold jD iG;generalize nm l.2=s at hle;rcases hk with e | e | e | e<;>(rw[e];simp[aA,cT,Ts];try omega)
 ·right;refine⟨h,?_⟩;unfold tR;rw[show((l.1,l.2):Int×Int)=l from rfl,e,aO];rfl
def j6s {l:Int×Int} (h:VL l):Uj fuel l=some (jD l):=by
 obtain⟨h1,h2,h3,h4⟩:=h;have hn:=iS h3 h4;have hle:=hn.le;unfold Uj;rw[hn.de,aO];have hk:l.1=1\/l.1=2\/l.1=3\/l.1=4:=by omega
 unfold jD iG;generalize nm l.2=s at hle;rcases hk with e | e | e | e<;>(rw[e];simp[aA,aI,Ts];try omega)
def iQ (k:Int):Nat:=([32,109,118,97]:List Nat).getD k.toNat 0
def dF (x:bJ):List Nat:=((((([iQ x.1]++[32])++jD x.2.1)++[32])++nm x.2.2.1)++[32])++nm x.2.2.2
structure OkX (x:bJ):Prop where
 o:OrdP x
 f0: -4096<=x.2.2.1
 t1:x.2.2.2<=4096
def jbr {l:Int×Int} (h:VL l):(jD l).length<=7:=by
 have:=(iS h.2.2.1 h.2.2.2).le;unfold jD;simp only[dG];omega
def OkX.vl {x:bJ} (h:OkX x):VL x.2.1:=⟨h.o.l1,h.o.l4,h.o.c0,h.o.c1⟩
def Mj (x:bJ):OkX x/\mF fuel x=some (dF x)\/¬OkX x/\mF fuel x=some []:=by
 obtain⟨b,hb,hb2⟩:=jns x;by_cases ho:OrdP x
 rotate_left
 ·refine .inr ⟨λh=>ho h.o,?_⟩;unfold mF;rw[show(x.1,((x.2.1.1,x.2.1.2),(x.2.2.1,x.2.2.2)))=x from rfl,hb,aO];cases b with
  | true=>exact absurd (hb2.1 rfl) ho
  | false=>rfl
 have eb:b=true:=hb2.2 ho;subst eb;by_cases h1:x.2.2.1 < -4096
 ·refine .inr ⟨λh=>by have:=h.f0;omega,?_⟩;unfold mF;rw[show(x.1,((x.2.1.1,x.2.1.2),(x.2.2.1,x.2.2.2)))=x from rfl,hb,aO];simp only[fC,aF,h1,bA,aB]
 by_cases h2:4096<x.2.2.2
 ·refine .inr ⟨λh=>by have:=h.t1;omega,?_⟩;unfold mF;rw[show(x.1,((x.2.1.1,x.2.1.2),(x.2.2.1,x.2.2.2)))=x from rfl,hb,aO];simp only[fC,aF,h1,h2,bM,bA,aB]
 have hx:OkX x:=⟨ho,by omega,by omega⟩
 have hv:=hx.vl;have hft:=ho.ft;have n1:=iS (n:=x.2.2.1) (by omega) (by omega);have n2:=iS (n:=x.2.2.2) (by omega) (by omega);have hl:=jbr hv;have le1:=n1.le;have le2:=n2.le;have hk:x.1=1\/x.1=2\/x.1=3:=by have:=ho.k1;have:=ho.k3;omega
 have hL:tR fuel (x.2.1.1,x.2.1.2)=some (jD x.2.1):=by
  rcases jbn x.2.1 with⟨_,e⟩ | ⟨h,_⟩
  ·exact e
  ·exact absurd hv h
 refine .inl ⟨hx,?_⟩;unfold mF;rw[show(x.1,((x.2.1.1,x.2.1.2),(x.2.2.1,x.2.2.2)))=x from rfl,hb,aO];simp only[fC,aF,h1,h2,bM];rw[jrs (k:=x.1) (by omega) (by omega),hL,aO,n1.it,aO,n2.it,aO];unfold dF iQ;generalize nm x.2.2.1=s1 at le1;generalize nm x.2.2.2=s2 at le2;generalize jD x.2.1=s3 at hl;rcases hk with e | e | e<;>(rw[e];simp[aA,cT,Ts];try omega)
def j6r {x:bJ} (hx:OkX x):Uo fuel x=some (dF x):=by
 have hv:=hx.vl;have hft:=hx.o.ft;have f0:=hx.f0;have t1:=hx.t1;have n1:=iS (n:=x.2.2.1) (by omega) (by omega);have n2:=iS (n:=x.2.2.2) (by omega) (by omega);have hl:=jbr hv;have le1:=n1.le;have le2:=n2.le;have hk:x.1=1\/x.1=2\/x.1=3:=by have:=hx.o.k1;have:=hx.o.k3;omega
 unfold Uo;rw[show(x.2.1.1,x.2.1.2)=x.2.1 from rfl,j6s hv,aO,n1.de,aO,n2.de,aO];unfold dF iQ;generalize nm x.2.2.1=s1 at le1;generalize nm x.2.2.2=s2 at le2;generalize jD x.2.1=s3 at hl;rcases hk with e | e | e<;>(rw[e];simp[aA,aI,Ts];try omega)
def Eg {w:List Nat} (h:∀y∈w,y<256):pG [w] [32]=w:=by
 simp only[pG,dA,nO,Lib.join_one];exact Hk h
def tQ {w0:List Nat} {ws:List (List Nat)} {w:List Nat} (h:∀y∈w,y<256):pG ((w0::ws)++[w]) [32]=pG (w0::ws) [32]++32::w:=by
 have e:(u8 w).map UInt8.toNat=w:=Hk h;simp only[pG,eW,dA,fY,nO,Lib.join_cons];simp only[Lib.joinTail,fY,vQ,dA,nO,sN,qgv,jQ,cD,e]
 congr 2
def j00 (s:List Nat):∃r,Em fuel s=some r:=by
 have htx:∀l:Int×Int,∃t,tR fuel l=some t/\asc t=true:=λl=>by
  rcases jbn l with⟨hv,e⟩ | ⟨_,e⟩
  ·refine⟨_,e,?_⟩;have hn:=iS hv.2.2.1 hv.2.2.2;unfold jD asc;rw[bS];intro y hy;have hl:iG l.1<128:=by
    unfold iG;have hk:l.1=1\/l.1=2\/l.1=3\/l.1=4:=by have:=hv.1;have:=hv.2.1;omega
    rcases hk with e | e | e | e<;>(rw[e];decide)
   simp only[Nat.blt,aP,aH];rcases bL.1 hy with rfl | hy
   ·omega
   ·rcases bL.1 hy with rfl | hy
    ·omega
    ·have:=hn.ch y hy;omega
  ·exact⟨_,e,rfl⟩
 unfold Em Ev;cases asc s with
 | true=>
   obtain⟨t,ht,_⟩:=htx (Go.Proofs.S07.lpFin s);rw[aB,ht];exact⟨_,rfl⟩
 | false=>
   rw[aF];unfold jbu;rw[aK λk c _=>htx (k,c)];exact⟨_,rfl⟩
def jg3 {s:List Nat} (h:s.length<=1000000):∃r,rJ fuel s=some r:=by
 unfold rJ Ir;rw[aP,cK h,aB];split<;>exact⟨_,rfl⟩
def jp6 {t:List Nat} (h:t.length<=1000):strings_Split fuel (t,[32])=some (cY t [32]):=by
 unfold strings_Split Mv;simp only;rw[aP,cK (by omega)];rfl
def jzk {w:List Nat} (h:w.length=1):∃r,My fuel ([32,109,118,97],w)=some r:=by
 unfold My Jv
 match w,h with
 | [c],_=>exact⟨_,rfl⟩
abbrev zSg:bJ:=(0,((0,0),(0,0)))
def jnw {s:List Nat} (h:s.length<=1000):∃r,rH fuel s=some r/\(r=(zSg,4)\/(r.2=0/\mF fuel r.1=some s/\s≠[])):=by
 suffices hs:Ret (rH fuel s) λr=>(r=(zSg,4)\/(r.2=0/\mF fuel r.1=some s/\s≠[])) from hs
 obtain⟨hw1,hw2⟩:=jrq s;have hlen:∀i,i< (cY s [32]).length->((cY s [32]).getD i []).length<=1000:=λi hi=>by
  rw[jF,dK hi,nL];exact eA (hw2 _ (dU hi)) h
 unfold rH;rw[jp6 h,aO];refine aS (λ_=>cB (.inl rfl)) λh5=>?_
 have h5:(cY s [32]).length=5:=by have:=tY.1 h5;omega
 have hin:∀i:Nat,i<5->aI (i:Int) (cY s [32]).length=true:=λi hi=>cZ (by omega) (by rw[h5];omega)
 have hne:s≠[]:=λe=>by rw[e] at h5;exact absurd h5 (by decide)
 refine bB (hin 0 (by omega)) (aS (λ_=>cB (.inl rfl)) λh1=>?_);have h1:((cY s [32]).getD 0 []).length=1:=by have:=tY.1 h1;omega
 have l1:=hlen 1 (by omega);have l2:=hlen 2 (by omega);have l3:=hlen 3 (by omega);have l4:=hlen 4 (by omega);obtain⟨r2,e2⟩:=j00 (((cY s [32]).getD 1 []++[32])++(cY s [32]).getD 2 []);obtain⟨r3,e3⟩:=jg3 (s:=(cY s [32]).getD 3 []) (by omega);obtain⟨r4,e4⟩:=jg3 (s:=(cY s [32]).getD 4 []) (by omega);obtain⟨r5,e5⟩:=jzk h1;refine bB (hin 1 (by omega)) (bB (by rw[aH];omega) (bB (hin 2 (by omega)) (bB (by rw[aH,dS,kC];omega) ?_)));rw[e2,aO];refine bB (hin 3 (by omega)) ?_;rw[e3,aO];refine bB (hin 4 (by omega)) ?_;rw[e4,aO];refine bB (hin 0 (by omega)) ?_;rw[e5,aO];refine aS (λ_=>cB (.inl rfl)) λ_=>iI (λ_=>cB (.inl rfl)) λ_=>iI (λ_=>cB (.inl rfl)) λ_=>?_
 have hT:∃t,mF fuel (IntKind.u8.wrap (max r5 0),((r2.1.1,r2.1.2),(r3.1,r4.1)))=some t:=by
  rcases Mj (IntKind.u8.wrap (max r5 0),((r2.1.1,r2.1.2),(r3.1,r4.1))) with⟨_,e⟩ | ⟨_,e⟩<;>exact⟨_,e⟩
 obtain⟨t,et⟩:=hT;rw[et,aO];refine aS (λ_=>cB (.inl rfl)) λhr=>cB (.inr ⟨rfl,?_,hne⟩)
 have hr:t=s:=tY.1 hr;rw[<-hr];exact et
def jlb {k:Int} (h:1<=k/\k<=3):iQ k<256/\iQ k≠32:=by
 have hk:k=1\/k=2\/k=3:=by omega
 unfold iQ;rcases hk with rfl | rfl | rfl<;>decide
def jl8 {k:Int} (h:1<=k/\k<=4):iG k<256/\iG k≠32:=by
 have hk:k=1\/k=2\/k=3\/k=4:=by omega
 unfold iG;rcases hk with rfl | rfl | rfl | rfl<;>decide
def jpq {x:bJ} (hx:OkX x):cY (dF x) [32]=[[iQ x.1],[iG x.2.1.1],nm x.2.1.2,nm x.2.2.1,nm x.2.2.2]:=by
 have hv:=hx.vl;have hft:=hx.o.ft;have f0:=hx.f0;have t1:=hx.t1;have n0:=iS hv.2.2.1 hv.2.2.2;have n1:=iS (n:=x.2.2.1) (by omega) (by omega);have n2:=iS (n:=x.2.2.2) (by omega) (by omega);have k1:=jlb ⟨hx.o.k1,hx.o.k3⟩;have k2:=jl8 ⟨hv.1,hv.2.1⟩;have c1:∀y∈[iG x.2.1.1],y<256:=λy hy=>by rw[bF.1 hy];exact k2.1
 have c0:∀y∈[iQ x.1],y<256:=λy hy=>by rw[bF.1 hy];exact k1.1
 have cn:∀ {n:Int},NumOK n->∀y∈nm n,y<256:=λh y hy=>by have:=h.ch y hy;omega
 have e:dF x=pG ([iQ x.1]::[[iG x.2.1.1],nm x.2.1.2,nm x.2.2.1,nm x.2.2.2]) [32]:=by
  have j1:=Eg c0;have j2:=tQ (w0:=[iQ x.1]) (ws:=[]) c1;have j3:=tQ (w0:=[iQ x.1]) (ws:=[[iG x.2.1.1]]) (cn n0);have j4:=tQ (w0:=[iQ x.1]) (ws:=[[iG x.2.1.1],nm x.2.1.2]) (cn n1);have j5:=tQ (w0:=[iQ x.1]) (ws:=[[iG x.2.1.1],nm x.2.1.2,nm x.2.2.1]) (cn n2);simp only[eW,dZ] at j2 j3 j4 j5;rw[j5,j4,j3,j2,j1];simp[dF,jD]
 rw[e,Rh];intro w hw y hy;simp only[bL,gW,gU] at hw;rcases hw with rfl | rfl | rfl | rfl | rfl
 ·rw[bF.1 hy];exact k1
 ·rw[bF.1 hy];exact k2
 ·have:=n0.ch y hy;omega
 ·have:=n1.ch y hy;omega
 ·have:=n2.ch y hy;omega
def Bv {x:bJ} (hx:OkX x):(dF x).length<=40:=by
 have hv:=hx.vl;have hft:=hx.o.ft;have f0:=hx.f0;have t1:=hx.t1;have n1:=(iS (n:=x.2.2.1) (by omega) (by omega)).le;have n2:=(iS (n:=x.2.2.2) (by omega) (by omega)).le;have n0:=jbr hv;unfold dF;simp only[dS,kC];omega
def j0z {l:Int×Int} (hv:VL l):Em fuel (jD l)=some (l,0):=by
 have hn:=iS hv.2.2.1 hv.2.2.2;have ha:asc (jD l)=true:=by
  unfold jD asc;rw[bS];intro y hy;have hl:iG l.1<128:=by
   unfold iG;have hk:l.1=1\/l.1=2\/l.1=3\/l.1=4:=by have:=hv.1;have:=hv.2.1;omega
   rcases hk with e | e | e | e<;>(rw[e];decide)
  simp only[Nat.blt,aP,aH];rcases bL.1 hy with rfl | hy
  ·omega
  ·rcases bL.1 hy with rfl | hy
   ·omega
   ·have:=hn.ch y hy;omega
 have hf:Go.Proofs.S07.lpFin (jD l)=l:=by
  have hk:l.1=1\/l.1=2\/l.1=3\/l.1=4:=by have:=hv.1;have:=hv.2.1;omega
  unfold jD iG;rcases hk with e | e | e | e
  ·rw[e];exact hn.l1.trans (oP e.symm rfl)
  ·rw[e];exact hn.l2.trans (oP e.symm rfl)
  ·rw[e];exact hn.l3.trans (oP e.symm rfl)
  ·rw[e];exact hn.l4.trans (oP e.symm rfl)
 have ht:tR fuel l=some (jD l):=by
  rcases jbn l with⟨_,e⟩ | ⟨h,_⟩
  ·exact e
  ·exact absurd hv h
 unfold Em Ev;rw[ha,aB,hf,ht,aO];have:(jD l).isEmpty=false:=rfl;rw[this];simp
def jzi {k:Int} (h:1<=k/\k<=3):My fuel ([32,109,118,97],[iQ k])=some k:=by
 have hk:k=1\/k=2\/k=3:=by omega
 unfold iQ;rcases hk with rfl | rfl | rfl<;>rfl
def j41 {x:bJ} (hx:OkX x):rH fuel (dF x)=some (x,0):=by
 have hv:=hx.vl;have hft:=hx.o.ft;have f0:=hx.f0;have t1:=hx.t1;have n0:=iS hv.2.2.1 hv.2.2.2;have n1:=iS (n:=x.2.2.1) (by omega) (by omega);have n2:=iS (n:=x.2.2.2) (by omega) (by omega);have le0:=n0.le;have hk:1<=x.1/\x.1<=3:=⟨hx.o.k1,hx.o.k3⟩
 have hT:mF fuel x=some (dF x):=by
  rcases Mj x with⟨_,e⟩ | ⟨h,_⟩
  ·exact e
  ·exact absurd hx h
 apply Ret.eq;unfold rH;rw[jp6 (by have:=Bv hx;omega),aO,jpq hx];refine aS (λg=>absurd (by rfl) g) λ_=>bB rfl (aS (λg=>absurd (by rfl) g) λ_=>bB rfl (bB rfl (bB rfl (bB ?_ ?_))))
 ·rw[aH];show([iG x.2.1.1]++[32]).length+ (nm x.2.1.2).length<=_;simp only[dS,kC];omega
 have e1:(([[iQ x.1],[iG x.2.1.1],nm x.2.1.2,nm x.2.2.1,nm x.2.2.2]:List (List Nat)).getD 1 []++[32])++([[iQ x.1],[iG x.2.1.1],nm x.2.1.2,nm x.2.2.1,nm x.2.2.2]:List (List Nat)).getD 2 []=jD x.2.1:=rfl;have e3:([[iQ x.1],[iG x.2.1.1],nm x.2.1.2,nm x.2.2.1,nm x.2.2.2]:List (List Nat)).getD 3 []=nm x.2.2.1:=rfl;have e4:([[iQ x.1],[iG x.2.1.1],nm x.2.1.2,nm x.2.2.1,nm x.2.2.2]:List (List Nat)).getD 4 []=nm x.2.2.2:=rfl;have e0:([[iQ x.1],[iG x.2.1.1],nm x.2.1.2,nm x.2.2.1,nm x.2.2.2]:List (List Nat)).getD 0 []=[iQ x.1]:=rfl;rw[e1,j0z hv,aO];refine bB rfl ?_;rw[e3,n1.at',aO];refine bB rfl ?_;rw[e4,n2.at',aO];refine bB rfl ?_;rw[e0,jzi hk,aO];have hw:IntKind.u8.wrap (max x.1 0)=x.1:=by
  rcases(by omega:x.1=1\/x.1=2\/x.1=3) with e | e | e<;>(rw[e];rfl)
 refine aS (λg=>absurd rfl g) λ_=>iI (λg=>by cases g) λ_=>iI (λg=>by cases g) λ_=>?_
 rw[hw,show(x.1,((x.2.1.1,x.2.1.2),(x.2.2.1,x.2.2.2)))=x from rfl,hT,aO];exact aS (λg=>absurd rfl g) λ_=>cB rfl
end X
end Go.Vm
namespace Go.Vm
namespace X
open W
def rM (l:List Nat):Nat:=l.foldl (λa b=>10*a+ (b-48)) 0
def je5 (l:List Nat) (b:Nat):rM (l++[b])=10*rM l+ (b-48):=by unfold rM;rw[qgk];rfl
def kaf:∀u:Nat,rM ((Lib.decDigits u).map UInt8.toNat)=u:=by
 intro u;induction u using Nat.strongRecOn with
 | _ u ih=>
   rw[Lib.decDigits];split
   ·simp[rM];omega
   ·rw[fY,dA,nO,je5,ih (u / 10) (by omega)];have e:(UInt8.ofNat (48+u%10)).toNat=48+u%10:=by simp;omega
    rw[e];omega
def jb3 {s:List Nat} (hl:s.length<=1000000) (hb:∀x∈s,x<256):lY fuel s=some (match kU s with
  | some u=>(u:Int)
  | none=> -1):=by
 have bad:kU s=none->Ret (some (-1:Int)) (λx=>x=(match kU s with
  | some u=>(u:Int)
  | none=> -1)):=λh=>cB (by rw[h])
 apply Ret.eq;unfold lY;refine gZ (λp:Int×Int=>∃i:Nat,p=(((rM (s.take i):Nat):Int),(i:Int))/\i<=s.length/\(i≠0->s.length<=9)/\rM (s.take i)<10^i) (λp=>s.length-p.2.toNat) ?_ fuel (0,0) ⟨0,rfl,fM _,λh=>absurd rfl h,by simp[rM]⟩ (by simp only[fuel];omega);rintro _ rec ⟨i,rfl,hi,h9,hv⟩ ih;simp only at ih ⊢;refine aS (λhlt=>?_) λhge=>?_
 ·have hlt:i<s.length:=by omega
  have hx:=hb _ (dU hlt);rw[jai hlt];have dig:∀u,s=bV 20 u->u<1000000000->48<=s[i]/\s[i]<=57:=λu h1 h2=>sC (u:=u) (by omega) _ (h1▸dU hlt)
  refine kN (aS (λg=>bad (Ko λu h1 h2 _=>by have:=dig u h1 h2;omega)) λg1=>kN (aS (λg=>bad (Ko λu h1 h2 _=>by have:=dig u h1 h2;omega)) λg2=>aS (λg=>bad (Ko λu h1 h2 h3=>by omega)) λg3=>?_));have hp:10^i<=10^9:=Fq (by decide) (by omega);have hp9:(10:Nat)^9=1000000000:=by decide
  rw[Wv,show(((s[i]:Nat):Int)-48)%256=((s[i] - 48:Nat):Int) by omega];refine cI (kN (cI (cI (cI ?_))));have e:s.take (i+1)=s.take i++[s[i]]:=by rw[Fy,dK hlt];rfl
  refine ih _ ⟨i+1,?_,hlt,λ_=>by omega,?_⟩ (by simp only;omega)
  ·rw[e,je5];exact oP (by simp only;omega) (by simp only;omega)
  ·rw[e,je5,Lq];omega
 ·have:i=s.length:=by omega
  subst this;rw[mC] at hv ⊢;have hlt:rM s<1000000000:=by
   by_cases h0:s.length=0
   ·rw[h0] at hv;simp at hv;omega
   ·have hp:10^s.length<=10^9:=Fq (by decide) (h9 h0);have hp9:(10:Nat)^9=1000000000:=by decide
    omega
  rw[Hu (by omega) (by omega),aO];refine aS (λg=>bad (Ko λu h1 h2 _=>g ?_)) λg=>cB ?_
  ·have hvu:rM s=u:=by rw[h1,zX (by omega),kaf]
   show bV 20 ((rM s:Nat):Int).toNat=s;rw[fF,hvu];exact h1.symm
  ·have g:bV 20 (rM s)=s:=tY.1 g;have h8:s.length<=9:=by
    by_cases h0:s.length=0
    ·omega
    ·exact h9 h0
   rw[xY.2 ⟨g.symm,hlt,h8⟩]
noncomputable def iP:List (List Nat)->Option (List Int)
 | []=>some []
 | s::t=>match kU s with
   | none=>none
   | some u=>(iP t).map λl=>(u:Int)::l
def jj4:∀ {T:List (List Nat)} {l:List Int},iP T=some l->l.length=T.length
 | [],l,h=>by cases h;rfl
 | s::t,l,h=>by
   unfold iP at h;split at h
   ·cases h
   ·obtain⟨r,hr,rfl⟩:=cX.1 h;simp[jj4 hr]
noncomputable def dY (line word:List Nat) (many:Nat):Option (List Int):=match cY line [32] with
 | w::T=>if w=word/\T.length=many then iP T else none
 | []=>none
def jfd (s:List Nat):∀w∈cY s [32],∀x∈w,x<256:=by
 intro w hw x hx;unfold cY at hw;obtain⟨v,_,rfl⟩:=bU.1 hw;obtain⟨b,_,rfl⟩:=bU.1 hx;exact b.toNat_lt
def j7t {t:List Nat} (h:t.length<=1000000):strings_Split fuel (t,[32])=some (cY t [32]):=by
 show Mv (t,[32])=_;unfold Mv;simp only;have:(t.length.ble 1000000&& !(([32]:List Nat).length.beq 0))=true:=by rw[aP,cK h];rfl
 first | rw[this,aB] | simp[aP,h]
def jb4 {line word:List Nat} {many:Nat} (hl:line.length<=1000000) (hm:many<=1000):Ab fuel (line,(word,(many:Int)))=some (match dY line word many with
  | some l=>(l,true)
  | none=>([],false)):=by
 have hws:=jrq line;have hwb:=jfd line;have hne:cY line [32]≠[]:=kas;apply Ret.eq;unfold Ab dY;rw[j7t hl,aO];generalize cY line [32]=ws at hws hwb hne ⊢
 match ws,hne with
 | w::T,_=>
   have hT:T.length<=1000000:=by have:=hws.1;simp only[dG] at this;omega
   simp only;refine bB (cZ (by omega) (by simp)) (aS (λg=>cB ?_) λg=>?_)
   ·rw[aD λh=>g h.1]
   ·have g:w=word:=tY.1 g;refine cI (aS (λg2=>cB ?_) λg2=>?_)
    ·rw[aD λh=>g2 (by rw[dG,h.2];omega)]
    ·have g2:T.length=many:=by
      have:=tY.1 g2;rw[dG] at this;omega
     rw[aK ⟨g,g2⟩];refine bB (fH.2 ⟨by omega,by rw[dG];omega,by omega⟩) ?_;refine gZ (λp:List Int×Int=>∃i:Nat,p.2=i/\i<=T.length/\p.1.length=i/\iP T=(iP (T.drop i)).map (p.1++·)) (λp=>T.length-p.2.toNat) ?_ fuel ([],0) ⟨0,rfl,fM _,rfl,by simp⟩ (by simp only[fuel];omega);rintro ⟨out,i'⟩ rec ⟨i,e,hi,ho,hg⟩ ih;simp only at e ho hg ih ⊢;subst e;have hlen:(w::T).length-1=T.length:=by simp
     rw[hlen];refine aS (λhlt=>?_) λhge=>?_
     ·have hlt:i<T.length:=by omega
      have hget:(w::T).getD (1+ ((i:Int)).toNat) []=T[i]:=by
       rw[fF,Ue,qfy,jF,dK hlt];rfl
      have hmem:T[i]∈w::T:=bX _ (dU hlt);have hdrop:T.drop i=T[i]::T.drop (i+1):=mB hlt;rw[hget];refine kN ?_;rcases j2e (s:=T[i]) (eA (hws.2 _ hmem) hl) (hwb _ hmem) with⟨u,n1,n2,n3,n4,n5⟩ | ⟨n1,r,n2,n3⟩
      ·rw[n3,aO];refine iI (λh=>by cases h) λ_=>aS (λh=>absurd h (by simp only;omega)) λ_=>aS (λh=>absurd h (by omega)) λ_=>?_
       rw[n5,aO];refine aS (λh=>absurd rfl h) λ_=>Xn (cI (ih _ ⟨i+1,by simp only;omega,hlt,by simp;omega,?_⟩ (by simp only;omega)))
       rw[hg,hdrop,iP,n1];simp only;rw[Option.map_map]
       congr 1
       funext l
       simp
      ·have hno:iP T=none:=by rw[hg,hdrop,iP,n1];rfl
       have bad:Ret (some (([]:List Int),false)) λx=>x=(match iP T with
        | some l=>(l,true)
        | none=>([],false)):=cB (by rw[hno])
       rw[n2,aO];refine iI (λh=>bad) λh1=>aS (λh=>bad) λh2=>aS (λh=>bad) λh3=>?_
       rcases n3 with h | h | h | ⟨_,t,h4,h5⟩
       ·rw[h] at h1;cases h1
       ·exact absurd h h2
       ·exact absurd (by omega) h3
       ·rw[h4,aO];exact aS (λ_=>bad) λh=>absurd h5 h
     ·have:i=T.length:=by omega
      subst this;rw[sT] at hg;have hg:iP T=some out:=by rw[hg,iP];simp
      exact cB (by rw[hg])
def aY (c:Nat):List Nat->List (List Nat)
 | []=>[[]]
 | b::l=>if b=c then []::aY c l else match aY c l with
   | w::ws=>(b::w)::ws
   | []=>[[b]]
def uU (c:Nat):∀l:List Nat,aY c l≠[]
 | []=>by simp[aY]
 | b::l=>by
   unfold aY;split
   ·simp
   ·split<;>simp
def zU (b:Nat):List (List Nat)->List (List Nat)
 | []=>[]
 | [w]=>[w++[b]]
 | w::v::ws=>w::zU b (v::ws)
def jvq {b:Nat} {w:List Nat} {ws:List (List Nat)} (h:ws≠[]):zU b (w::ws)=w::zU b ws:=by
 match ws,h with
 | v::ws,_=>rfl
def Zb (c b:Nat):∀l:List Nat,aY c (l++[b])=if b=c then aY c l++[[]] else zU b (aY c l)
 | []=>by
   simp only[dZ,aY];split<;>simp[zU]
 | x::l=>by
   rw[eW,aY,Zb c b l];have hn:=uU c l;rw[aY];by_cases hx:x=c
   ·rw[aK hx,aK hx];by_cases hb:b=c
    ·rw[aK hb,aK hb];rfl
    ·rw[aD hb,aD hb,jvq hn]
   ·rw[aD hx,aD hx]
    match aY c l,hn with
    | w::ws,_=>
      by_cases hb:b=c
      ·rw[aK hb,aK hb];rfl
      ·rw[aD hb,aD hb];cases ws with
       | nil=>rfl
       | cons v ws=>rfl
def jhb {b:Nat}:∀ {L:List (List Nat)},L≠[]->zU b L=L.set (L.length-1) (L.getD (L.length-1) []++[b])
 | [],h=>absurd rfl h
 | [w],_=>rfl
 | w::v::ws,_=>by
   rw[zU,jhb (L:=v::ws) (by simp)];have e:(w::v::ws).length-1=((v::ws).length-1)+1:=by simp
   rw[e,List.set_cons_succ,qfy]
def uT (c:Nat):∀l:List Nat,(aY c l).length<=l.length+1/\∀w∈aY c l,w.length<=l.length
 | []=>by simp[aY]
 | b::l=>by
   obtain⟨h1,h2⟩:=uT c l;unfold aY;split
   ·refine⟨by simp;omega,λw hw=>?_⟩;rcases bL.1 hw with rfl | hw
    ·simp
    ·have:=h2 w hw;simp;omega
   ·split
    ·rename_i w ws e;rw[e] at h1 h2;refine⟨by simp at h1 ⊢;omega,λv hv=>?_⟩;rcases bL.1 hv with rfl | hv
     ·have:=h2 w bY;simp;omega
     ·have:=h2 v (bX _ hv);simp;omega
    ·exact⟨by simp,λv hv=>by simp at hv;subst hv;simp⟩
def Ro {s:List Nat} {c:Nat} (hl:s.length<=1000000):sI fuel (s,(c:Int))=some (aY c s):=by
 apply Ret.eq;unfold sI;refine gZ (λp:List (List Nat)×Int=>∃i:Nat,p=(aY c (s.take i),(i:Int))/\i<=s.length) (λp=>s.length-p.2.toNat) ?_ fuel ([[]],0) ⟨0,rfl,fM _⟩ (by simp only[fuel];omega);rintro _ rec ⟨i,rfl,hi⟩ ih;simp only at ih ⊢;have hn:=uU c (s.take i);obtain⟨l1,l2⟩:=uT c (s.take i);have htk:(s.take i).length=i:=by simp;omega
 rw[htk] at l1 l2;refine aS (λhlt=>?_) λhge=>?_
 ·have hlt:i<s.length:=by omega
  have e:s.take (i+1)=s.take i++[s[i]]:=by rw[Fy,dK hlt];rfl
  have hL:0< (aY c (s.take i)).length:=qf0.2 hn;rw[jai hlt];refine kN (aS (λg=>?_) λg=>?_)
  ·refine Xn (cI (ih _ ⟨i+1,?_,hlt⟩ (by simp only;omega)));rw[e,Zb,aK (by omega)];exact oP rfl (by simp)
  ·have e3:((((aY c (s.take i)).length:Nat):Int)-1).toNat=(aY c (s.take i)).length-1:=by omega
   have e4:(s.drop ((i:Int)).toNat).take (((i:Int)+1).toNat-((i:Int)).toNat)=[s[i]]:=by
    rw[show((i:Int)+1).toNat-((i:Int)).toNat=1 by omega,fF,mB hlt];rfl
   have e5:((aY c (s.take i)).getD ((aY c (s.take i)).length-1) []).length<=i:=by
    rw[jF,dK (by omega)];exact l2 _ (dU _)
   rw[e3,e4];refine cI (kN (cI (bB (fH.2 ⟨by omega,by omega,by omega⟩) (bB (cK (by rw[kC];omega)) (kN (cI (ih _ ⟨i+1,?_,hlt⟩ (by simp only;omega))))))));rw[e,Zb,aD (by omega),jhb hn];exact oP rfl (by simp)
 ·have:i=s.length:=by omega
  subst this;rw[mC];exact cB rfl
def Zc {w:List Nat} (h:w.length<=1000000000):oT fuel (w++[10],[10])=some (w,true):=by
 apply Ret.eq;unfold oT;have e1:((w++[10]).length:Int)-(([10]:List Nat).length:Int)=(w.length:Int):=by simp
 simp only;rw[e1];refine aS (λ_=>?_) λg=>absurd (by simp;omega) g
 refine cI (bB (fH.2 ⟨by omega,by simp;omega,by simp⟩) (iI (λg=>?_) λ_=>cI (bB (fH.2 ⟨by omega,by omega,by simp;omega⟩) (cB ?_))))
 ·simp at g
 ·simp
def jis {e:List Nat} (h:e.length<=1000000000) (hn:10∉e):oT fuel (e,[10])=some (e,false):=by
 apply Ret.eq;unfold oT;simp only;refine aS (λg=>?_) λ_=>cB rfl
 have g:1<=e.length:=by simp at g;omega
 refine bB (cM (by simp;omega) (by simp;omega)) (bB (fH.2 ⟨by simp;omega,by simp;omega,by omega⟩) (iI (λ_=>cB rfl) λg2=>?_));exfalso;have g3:((e.drop (((e.length:Int)-(([10]:List Nat).length:Int))).toNat).take (e.length-(((e.length:Int)-(([10]:List Nat).length:Int))).toNat))=[10]:=by simpa using g2
 have:(10:Nat)∈([10]:List Nat):=by simp
 rw[<-g3] at this;exact hn (Lh (qfr this))
def oB:List (List Nat)->List (List Nat)
 | []=>[]
 | [e]=>if e=[] then [] else [e]
 | w::v::ws=>(w++[10])::oB (v::ws)
def Dk {c:Nat} {b:List Nat}:∀ {a:List Nat},c∉a->aY c (a++c::b)=a::aY c b
 | [],_=>by simp[aY]
 | x::a,h=>by
   have hx:x≠c:=λe=>h (e▸bY)
   rw[eW,aY,aD hx,Dk λg=>h (bX _ g)]
def jip {c:Nat}:∀ {a:List Nat},c∉a->aY c a=[a]
 | [],_=>rfl
 | x::a,h=>by
   have hx:x≠c:=λe=>h (e▸bY)
   rw[aY,aD hx,jip λg=>h (bX _ g)]
def jjs (c:Nat):∀s:List Nat,c∉s\/∃a b,s=a++c::b/\c∉a
 | []=>.inl (by simp)
 | x::s=>by
   by_cases h:x=c
   ·exact .inr ⟨[],s,by rw[h];rfl,by simp⟩
   ·rcases jjs c s with g | ⟨a,b,e,g⟩
    ·exact .inl λq=>(bL.1 q).elim (λq=>h q.symm) λq=>g q
    ·exact .inr ⟨x::a,b,by rw[e];rfl,λq=>(bL.1 q).elim (λq=>h q.symm) λq=>g q⟩
def jbo:∀(n:Nat) (s:List Nat),s.length<=n->eT s=oB (aY 10 s)
 | 0,s,h=>by
   have:s=[]:=oK (by omega);subst this;rw[(Ki).2 rfl];rfl
 | n+1,s,h=>by
   rcases jjs 10 s with g | ⟨a,b,rfl,g⟩
   ·rw[jip g];by_cases h0:s=[]
    ·subst h0;rw[(Ki).2 rfl];rfl
    ·rw[jbm h0 g,oB,aD h0]
   ·rw[jbl g,Dk g,jbo n b (by simp at h;omega)];have:=uU 10 b
    match aY 10 b,this with
    | v::ws,_=>rfl
set_option maxRecDepth 100000
abbrev cW:=Int×((Int×Int)×(Int×Int))
def bI:List Nat:=[101,110,100]
def dD:List Nat:=[99,114,101,97,115,101]
noncomputable def oJ (w:List Nat):Option cW:=match rH fuel w with
 | some r=>if r.2=0 then some r.1 else none
 | none=>none
def jnx {w:List Nat} (h:w.length<=1000):(∃x,oJ w=some x/\rH fuel w=some (x,0))\/(oJ w=none/\∃r,rH fuel w=some r/\r.2≠0):=by
 obtain⟨r,h1,_⟩:=jnw h;unfold oJ;rw[h1];by_cases h0:r.2=0
 ·exact .inl ⟨r.1,by simp[h0],by rw[<-h0]⟩
 ·exact .inr ⟨by simp[h0],r,rfl,h0⟩
noncomputable def cU (i:Nat) (sh:Int×Int) (l:List cW) (body:List Nat):List (List Nat)->Int ⊕ ((Int×Int)×(List cW×(Int×List Nat)))
 | []=>.inl (i+1)
 | [_]=>.inl (i+1)
 | w::v::ws=>match (if i=0 then none else dY w bI 1) with
   | some ns=>if v=[]/\ws=[] then .inr (sh,(l,(ns.getD 0 0,body))) else .inl (i+2)
   | none=>if i=0 then(match dY w dD 2 with
      | none=>.inl 1
      | some ns=>cU 1 (ns.getD 0 0,ns.getD 1 0) l (body++(w++[10])) (v::ws))
     else(match oJ w with
      | none=>.inl (i+1)
      | some x=>cU (i+1) sh (l++[x]) (body++(w++[10])) (v::ws))
def vK (r:Int ⊕ ((Int×Int)×(List cW×(Int×List Nat)))):(Int×(Int×(List cW×(Int×Int))))×Int:=match r with
 | .inl n=>((0,(0,([],(0,0)))),n)
 | .inr a=>((a.1.1,(a.1.2,(a.2.1,(a.2.2.1,(a.2.2.2.length:Int))))),0)
def jb5 {w word:List Nat} {m:Nat} {l:List Int} (h:dY w word m=some l):l.length=m:=by
 unfold dY at h;split at h
 ·split at h
  ·rename_i g;rw[jj4 h];exact g.2
  ·cases h
 ·cases h
def jxs {y:List Nat} (h:y.length<=1000000000) (hy:(∃v,y=v++[10])\/10∉y):∃r,oT fuel (y,[10])=some r:=by
 rcases hy with⟨v,rfl⟩ | hy
 ·exact⟨_,Zc (by simp at h;omega)⟩
 ·exact⟨_,jis h hy⟩
def jyj {v:List Nat} {ws:List (List Nat)} (h:¬(v=[]/\ws=[])) (hv:10∉v):∃y r,oB (v::ws)=y::r/\((∃u,y=u++[10])\/10∉y)/\y.length<=v.length+1:=by
 cases ws with
 | nil=>
   have h0:v≠[]:=λe=>h ⟨e,rfl⟩
   exact⟨v,[],by rw[oB,aD h0],.inr hv,by omega⟩
 | cons w ws=>exact⟨v++[10],oB (w::ws),rfl,.inl ⟨v,rfl⟩,by simp⟩
abbrev zJ:=(Int×Unit)×((Int×(Int×(List cW×(Int×Int))))×((Bool×Unit)×(Int×Unit)))
def oS (i:Int) (sh:Int×Int) (l:List cW) (sum b:Int) (over:Bool) (at_:Int):zJ:=((i,()),((sh.1,(sh.2,(l,(sum,b)))),((over,()),(at_,()))))
abbrev Cv:=(Int×(Int×(List cW×(Int×Int))))×Int
structure StepD (D:zJ->Option Cv) (S:List Nat->(zJ->Option Cv)->zJ->Option Cv):Prop where
 d0:∀(i:Nat) sh l sum b at_,i<=3000000->D (oS i sh l sum b false at_)=some ((0,(0,([],(0,0)))),(i:Int)+1)
 d1:∀(i:Nat) sh l sum b at_,i<=3000000->D (oS i sh l sum b true at_)=some ((sh.1,(sh.2,(l,(sum,b)))),0)
 cut:∀y rec (i:Nat) sh l sum b over at_ w,i<=3000000->oT fuel (y,[10])=some (w,false)->S y rec (oS i sh l sum b over at_)=some ((0,(0,([],(0,0)))),(i:Int)+1)
 late:∀y rec (i:Nat) sh l sum b at_ w,i<=3000000->oT fuel (y,[10])=some (w,true)->S y rec (oS i sh l sum b true at_)=some ((0,(0,([],(0,0)))),(i:Int)+1)
 line:∀y rec (i:Nat) sh l (n:Nat) w,i<=3000000->l.length<=3000000->n<=3000000000->w.length<=1000->y.length<=1001->oT fuel (y,[10])=some (w,true)->
  S y rec (oS i sh l 0 0 false n)=(match (if i=0 then none else dY w bI 1) with
    | some ns=>rec (oS ((i:Int)+1) sh l (ns.getD 0 0) n true ((n:Int)+y.length))
    | none=>if i=0 then(match dY w dD 2 with
       | none=>some ((0,(0,([],(0,0)))),1)
       | some ns=>rec (oS ((i:Int)+1) (ns.getD 0 0,ns.getD 1 0) l 0 0 false ((n:Int)+y.length)))
      else(match oJ w with
       | none=>some ((0,(0,([],(0,0)))),(i:Int)+1)
       | some x=>rec (oS ((i:Int)+1) sh (l++[x]) 0 0 false ((n:Int)+y.length))))
def jlu {D:zJ->Option Cv} {S:List Nat->(zJ->Option Cv)->zJ->Option Cv} (h:StepD D S):∀(P:List (List Nat)),P≠[]->(∀w∈P,10∉w)->(∀w∈P,w.length<=1000)->∀(i:Nat) (sh:Int×Int) (l:List cW) (body:List Nat),i+P.length<=2000000->l.length<=i->body.length<=1001*i->
  lK D S (oB P) (oS i sh l 0 0 false body.length)=some (vK (cU i sh l body P))
 | [],h0,_,_,_,_,_,_,_,_,_=>absurd rfl h0
 | [e],_,h10,hl,i,sh,l,body,hi,hll,hbl=>by
   simp only[dG,iT] at hi;have e10:=h10 e (by simp);have el:=hl e (by simp);rw[oB,cU];by_cases h0:e=[]
   ·rw[aK h0,lK,h.d0 i _ _ _ _ _ (by omega)];rfl
   ·rw[aD h0,lK,h.cut _ _ i _ _ _ _ _ _ _ (by omega) (jis (by omega) e10)];rfl
 | w::v::ws,_,h10,hl,i,sh,l,body,hi,hll,hbl=>by
   simp only[dG] at hi;have wl:=hl w (by simp);have hv10:=h10 v (by simp);have vl:=hl v (by simp);have ih:=jlu h (v::ws) (by simp) (λx hx=>h10 x (bX _ hx)) (λx hx=>hl x (bX _ hx));have hlen:(((w++[10]).length:Nat):Int)=(w.length:Int)+1:=by simp
   rw[oB,lK,h.line _ _ i _ _ body.length w (by omega) (by omega) (by omega) wl (by simp;omega) (Zc (by omega))];rw[cU];cases e1:(if i=0 then none else dY w bI 1) with
   | some ns=>
     simp only;by_cases hv:v=[]/\ws=[]
     ·rw[aK hv,hv.1,hv.2,oB,aK rfl,lK];have:=h.d1 (i+1) sh l (ns.getD 0 0) body.length ((body.length:Int)+ ((w++[10]).length:Nat)) (by omega);rw[show(((i+1:Nat):Int))=(i:Int)+1 by omega] at this;rw[this];rfl
     ·rw[aD hv];obtain⟨y,r,ey,hy,yl⟩:=jyj hv hv10;rw[ey,lK];obtain⟨c,hc⟩:=jxs (by omega) hy;have e2:(((i+1:Nat):Int))=(i:Int)+1:=by omega
      obtain⟨cw,cb⟩:=c;cases cb with
      | false=>
        have:=h.cut y (lK D S r) (i+1) sh l (ns.getD 0 0) body.length true ((body.length:Int)+ ((w++[10]).length:Nat)) cw (by omega) hc;rw[e2] at this;rw[this];simp only[vK]
        congr 2
      | true=>
        have:=h.late y (lK D S r) (i+1) sh l (ns.getD 0 0) body.length ((body.length:Int)+ ((w++[10]).length:Nat)) cw (by omega) hc;rw[e2] at this;rw[this];simp only[vK]
        congr 2
   | none=>
     simp only;have eb:(((body++(w++[10])).length:Nat):Int)=(body.length:Int)+ (((w++[10]).length:Nat):Int):=by rw[dS];omega
     by_cases h0:i=0
     ·rw[aK h0,aK h0];subst h0;cases e2:dY w dD 2 with
      | none=>rfl
      | some ns=>
        simp only;have:=ih 1 (ns.getD 0 0,ns.getD 1 0) l (body++(w++[10])) (by simp only[dG];omega) (by omega) (by simp;omega);rw[eb] at this;exact this
     ·rw[aD h0,aD h0];cases e2:oJ w with
      | none=>rfl
      | some x=>
        simp only;have:=ih (i+1) sh (l++[x]) (body++(w++[10])) (by simp only[dG];omega) (by simp;omega) (by simp;omega);rw[eb,show(((i+1:Nat):Int))=(i:Int)+1 by omega] at this;exact this
def jio:∀s:List Nat,∀w∈aY 10 s,10∉w
 | [],w,hw=>by simp[aY] at hw;subst hw;simp
 | b::s,w,hw=>by
   have ih:=jio s;unfold aY at hw;split at hw
   ·rcases bL.1 hw with rfl | hw
    ·simp
    ·exact ih w hw
   ·rename_i hb;split at hw
    ·rename_i v vs e;rw[e] at ih;rcases bL.1 hw with rfl | hw
     ·intro g;rcases bL.1 g with g | g
      ·exact hb g.symm
      ·exact ih v bY g
     ·exact ih w (bX _ hw)
    ·simp at hw;subst hw;intro g;simp at g;exact hb g.symm
def cC {α:Type} {c:Bool} {x:Option α} (h:c=true):aA c x=x:=by rw[h];rfl
def gO {α:Type} {p:Prop} {inst:Decidable p} {x y:α} (h:¬p):(bif @decide p inst then x else y)=y:=by rw[pS h];rfl
def fG {α:Type} {p:Prop} {inst:Decidable p} {x y:α} (h:p):(bif @decide p inst then x else y)=x:=by rw[cK h];rfl
def Zi {s:List Nat} (hs:s.length<=1000000) (hp:∀w∈aY 10 s,w.length<=1000):Ql fuel s=some (vK (cU 0 (0,0) [] [] (aY 10 s))):=by
 have hlen:(aY 10 s).length<=1000001:=by have:=(uT 10 s).1;omega
 unfold Ql Kj;simp only;rw[aP,cK (by omega),aB,aO,jbo s.length s (aU _)];refine jlu ?_ (aY 10 s) (uU 10 s) (jio s) hp 0 (0,0) [] [] (by omega) (aU _) (aU _);have endE:([101,110,100]:List Nat)=bI:=rfl;have creE:([99,114,101,97,115,101]:List Nat)=dD:=rfl;refine⟨λi sh l sum b at_ hi=>?_,λi sh l sum b at_ hi=>?_,λy rec i sh l sum b over at_ w hi hc=>?_,λy rec i sh l sum b at_ w hi hc=>?_,λy rec i sh l n w hi hl hn hw hy hc=>?_⟩
 ·apply Ret.eq;simp only[oS];exact iI (λ_=>cI (cB rfl)) λg=>by cases g
 ·apply Ret.eq;simp only[oS];exact iI (λg=>by cases g) λ_=>cB rfl
 ·apply Ret.eq;simp only[oS];refine cI ?_;rw[hc,aO];exact iI (λ_=>cB rfl) λg=>by cases g
 ·apply Ret.eq;simp only[oS];refine cI ?_;rw[hc,aO];exact iI (λg=>by cases g) λ_=>iI (λ_=>cB rfl) λg=>by cases g
 ·have hy':(y.length:Int)<=1001:=by omega
  simp only[oS];rw[cC (cM (by omega) (by omega)),hc,aO];simp only[fC,aF];have n1:=jb4 (line:=w) (word:=bI) (many:=1) (by omega) (by omega);have n2:=jb4 (line:=w) (word:=dD) (many:=2) (by omega) (by omega);rw[show(((1:Nat)):Int)=1 from rfl] at n1;rw[show(((2:Nat)):Int)=2 from rfl] at n2;rw[endE,creE,n1,n2];simp only[aO];by_cases h0:i=0
  ·have q1:¬((1:Int)< (i:Int)+1):=by omega
   have q2:(i:Int)+1=1:=by omega
   rw[aK h0];simp only;rw[aK h0];cases e2:dY w dD 2 with
   | none=>
     cases dY w bI 1 with
     | none=>simp only[aF];(refine(fG q2).trans ?_;rw[q2];rfl)
     | some ms=>simp only[aB];(refine(gO q1).trans ((fG q2).trans ?_);rw[q2];rfl)
   | some ns=>
     have l2:=jb5 e2;cases dY w bI 1 with
     | none=>
       simp only[fC,aF];refine(fG q2).trans ?_;rw[cC (cZ (by omega) (by omega)),cC (cZ (by omega) (by omega)),cC (cM (by omega) (by omega))]
     | some ms=>
       simp only[fC,aF,aB];refine(gO q1).trans ((fG q2).trans ?_);rw[cC (cZ (by omega) (by omega)),cC (cZ (by omega) (by omega)),cC (cM (by omega) (by omega))]
  ·have q1:(1:Int)< (i:Int)+1:=by omega
   have q2:¬((i:Int)+1=1):=by omega
   rw[aD h0];cases e1:dY w bI 1 with
   | some ns=>
     have l1:=jb5 e1;simp only[aB];refine(fG q1).trans ?_;rw[cC (cZ (by omega) (by omega)),cC (cM (by omega) (by omega))]
   | none=>
     simp only[aF];refine(gO q2).trans ?_;rw[aD h0];rcases jnx hw with⟨x,p1,p2⟩ | ⟨p1,r,p2,p3⟩
     ·rw[p1,p2,aO];simp only;refine(gO (λg=>g rfl)).trans ?_;rw[cC (oF (by omega)),cC (cM (by omega) (by omega))]
     ·rw[p1,p2,aO];simp only;exact fG p3
abbrev uO:=List cW×(List Nat×(Int×(Int×(Int×((Int×(Int×Unit))×(Int×Int))))))
def tD (l:List cW) (body:List Nat) (sum e i:Int) (sh:Int×Int):uO:=(l,(body,(sum,(e,(i,((0,(0,())),sh))))))
structure StepT {β:Type} (P:List (List Nat)) (S:(uO->Option β)->uO->Option β) (T:uO->Option β) (bad:Int->β):Prop where
 stop:∀rec l body sum e sh,S rec (tD l body sum e (P.length:Int) sh)=T (tD l body sum e (P.length:Int) sh)
 last:∀rec (i:Nat) (h:i+1=P.length) l body sum (e:Nat) sh,body.length<=3000000000->S rec (tD l body sum e (i:Int) sh)=if P[i]=[]/\0<e then rec (tD l body sum e ((i:Int)+1) sh) else some (bad ((i:Int)+1))
 late:∀rec (i:Nat),i+1<P.length->∀l body sum (e:Nat) sh,0<e->S rec (tD l body sum e (i:Int) sh)=some (bad ((i:Int)+1))
 line:∀rec (i:Nat) (h:i+1<P.length) l body sum sh,l.length<=2000000->body.length<=3000000000->S rec (tD l body sum 0 (i:Int) sh)=
  (if i=0 then(match dY P[i] dD 2 with
      | none=>some (bad 1)
      | some ns=>rec (tD l (body++(P[i]++[10])) sum 0 ((i:Int)+1) (ns.getD 0 0,ns.getD 1 0)))
    else(match dY P[i] bI 1 with
     | some ns=>rec (tD l body (ns.getD 0 0) ((i:Int)+1) ((i:Int)+1) sh)
     | none=>(match oJ P[i] with
       | none=>some (bad ((i:Int)+1))
       | some x=>rec (tD (l++[x]) (body++(P[i]++[10])) sum 0 ((i:Int)+1) sh))))
def Mb {β:Type} (T:uO->Option β) (bad:Int->β) (n:Nat) (r:Int ⊕ ((Int×Int)×(List cW×(Int×List Nat)))):Option β:=match r with
 | .inl m=>some (bad m)
 | .inr a=>T (tD a.2.1 a.2.2.2 a.2.2.1 ((a.2.1.length:Int)+2) (n:Int) a.1)
def jbt {β:Type} {P:List (List Nat)} {S:(uO->Option β)->uO->Option β} {T:uO->Option β} {bad:Int->β} (h:StepT P S T bad) (hP:P.length<=1000001) (hp:∀w∈P,w.length<=1000):
  ∀(k n i:Nat) (sh:Int×Int) (l:List cW) (body:List Nat),P.length=i+ (k+1)->k+4<=n->l.length=i-1->body.length<=1001*i->
   cN S n (tD l body (-1) 0 (i:Int) sh)=Mb T bad P.length (cU i sh l body (P.drop i))
 | 0,n+1,i,sh,l,body,hi,hn,hl,hb=>by
   rw[mB (show i<P.length by omega),sP (by omega),cU,cN];have:=h.last (cN S n) i (by omega) l body (-1) 0 sh (by omega);rw[aD (by simp)] at this;exact this
 | k+1,n+1,i,sh,l,body,hi,hn,hl,hb=>by
   have hd:=mB (show i<P.length by omega);have hd2:=mB (show i+1<P.length by omega);have hw:=hp _ (dU (show i<P.length by omega));have hs:=h.line (cN S n) i (by omega) l body (-1) sh (by omega) (by omega);have e1:((i:Int)+1)=((i+1:Nat):Int):=by omega
   rw[cN,hs,hd,hd2,cU];by_cases h0:i=0
   ·rw[aK h0,aK h0,aK h0];subst h0;simp only;cases dY P[0] dD 2 with
    | none=>rfl
    | some ns=>
      simp only;have ih:=jbt h hP hp k n 1 (ns.getD 0 0,ns.getD 1 0) l (body++(P[0]++[10])) (by omega) (by omega) (by omega) (by simp;omega);rw[hd2] at ih;exact ih
   ·rw[aD h0,aD h0,aD h0];cases dY P[i] bI 1 with
    | none=>
      simp only;cases oJ P[i] with
      | none=>rfl
      | some x=>
        simp only;have ih:=jbt h hP hp k n (i+1) sh (l++[x]) (body++(P[i]++[10])) (by omega) (by omega) (by simp;omega) (by simp;omega);rw[hd2] at ih;rw[e1];exact ih
    | some ns=>
      simp only;obtain⟨n,rfl⟩:∃m,n=m+1:=⟨n-1,by omega⟩
      rw[cN,e1];by_cases hk:k=0
      ·have hlast:=h.last (cN S n) (i+1) (by omega) l body (ns.getD 0 0) (i+1) sh (by omega);rw[hlast];have hd3:P.drop (i+1+1)=[]:=sP (by omega);rw[hd3];by_cases hv:P[i+1]=[]
       ·rw[aK ⟨hv,by omega⟩,aK ⟨hv,rfl⟩];obtain⟨n,rfl⟩:∃m,n=m+1:=⟨n-1,by omega⟩
        rw[cN,show(((i+1:Nat):Int)+1)=(P.length:Int) by omega,h.stop];simp only[Mb];rw[show((i+1:Nat):Int)=(l.length:Int)+2 by omega]
       ·rw[aD λg=>hv g.1,aD λg=>hv g.1];simp only[Mb];rw[show(((i+1:Nat):Int)+1)=(i:Int)+2 by omega]
      ·have hlate:=h.late (cN S n) (i+1) (by omega) l body (ns.getD 0 0) (i+1) sh (by omega);rw[hlate,aD λg=>by
        have:=qfq.1 g.2;omega]
       simp only[Mb];rw[show(((i+1:Nat):Int)+1)=(i:Int)+2 by omega]
abbrev uL:=(Int×(Int×(List (Int×(Int×Int)))))×(Int×Int)
def Cn (N:Nat) (x2:uO):Option uL:=((Br N x2.2.1).bind λr15=>bif(decide (x2.2.2.1≠r15)) then(some ((0,(0,[])),(x2.2.2.2.1,10))) else((mE N (x2.2.2.2.2.2.2.1,x2.2.2.2.2.2.2.2)).bind λr16=>bif(decide (r16=0)) then(some ((0,(0,[])),(1,1))) else((Lx N ((x2.2.2.2.2.2.2.1,x2.2.2.2.2.2.2.2),x2.1)).bind λr17=>bif(decide (r17.2.2≠0)) then(aA (aC (r17.2.1+2)) (some ((0,(0,[])),((r17.2.1+2),r17.2.2)))) else((Gh N (r17.1.1,(r17.1.2.1,r17.1.2.2))).bind λr18=>cN (λrec19 (x19:(Int×(Int×(Int×Unit))))=>bif(decide (x19.1< ((x2.1.length:Nat):Int))) then(bif(decide (((r18.length:Nat):Int)<=x19.1)) then(aA (aC (x19.1+2)) (some ((0,(0,[])),((x19.1+2),6)))) else(aA (aI x19.1 x2.1.length) (aA (aI x19.1 r18.length) (bif(!(decide ((x2.1.getD x19.1.toNat (0,((0,0),(0,0)))).1=(r18.getD x19.1.toNat (0,((0,0),(0,0)))).1)&&(decide ((x2.1.getD x19.1.toNat (0,((0,0),(0,0)))).2.1.1=(r18.getD x19.1.toNat (0,((0,0),(0,0)))).2.1.1)&&(decide ((x2.1.getD x19.1.toNat (0,((0,0),(0,0)))).2.1.2=(r18.getD x19.1.toNat (0,((0,0),(0,0)))).2.1.2)&&(decide ((x2.1.getD x19.1.toNat (0,((0,0),(0,0)))).2.2.1=(r18.getD x19.1.toNat (0,((0,0),(0,0)))).2.2.1)&&decide ((x2.1.getD x19.1.toNat (0,((0,0),(0,0)))).2.2.2=(r18.getD x19.1.toNat (0,((0,0),(0,0)))).2.2.2)))))) then(aA (aC (x19.1+2)) (some ((0,(0,[])),((x19.1+2),6)))) else(aA (aC (x19.1+1)) (rec19 ((x19.1+1),(x19.2.1,(x19.2.2.1,()))))))))) else(some ((r17.1.1,(r17.1.2.1,r17.1.2.2)),(0,0)))) N (0,(x2.2.2.2.2.2.1.1,(x2.2.2.2.2.2.1.2.1,())))))))
def zS (m:Int):uL:=((0,(0,[])),(m,4))
def qT {σ β:Type} {k:σ->Option β} {f:(σ->Option β)->Option β}:jn k f=f k:=rfl
def sB {α:Type} {c:Bool} {x y:α} (h:c=true):(bif c then x else y)=x:=by rw[h];rfl
def tN {α:Type} {c:Bool} {x y:α} (h:c=false):(bif c then x else y)=y:=by rw[h];rfl
def jir:∀l:List UInt8,aY 32 (l.map UInt8.toNat)=(gX 32 l).map (·.map UInt8.toNat)
 | []=>rfl
 | b::l=>by
   have ih:=jir l;have hn:=jdn (c:=32) l;simp only[dA,aY,gX];rw[ih];by_cases h:b=32
   ·subst h;rfl
   ·have h':¬b.toNat=32:=λg=>h (Bl.1 g)
    simp only[h,h',cO]
    match gX 32 l,hn with
    | w::ws,_=>rfl
def kar {w:List Nat} (h:∀x∈w,x<256):cY w [32]=aY 32 w:=by
 have e:aY 32 w=(gX 32 (u8 w)).map (·.map UInt8.toNat):=by rw[<-jir,Hk h]
 rw[e];unfold cY;rw[show u8 [32]=[32] from rfl,Gv]
def Dl (c:Nat):∀(s w:List Nat),w∈aY c s->∀x∈w,x∈s
 | [],w,h,x,hx=>by simp[aY] at h;subst h;cases hx
 | b::s,w,h,x,hx=>by
   have ih:=Dl c s;unfold aY at h;split at h
   ·rcases bL.1 h with rfl | h
    ·cases hx
    ·exact bX _ (ih w h x hx)
   ·split at h
    ·rename_i v vs e;rw[e] at ih;rcases bL.1 h with rfl | h
     ·rcases bL.1 hx with rfl | hx
      ·exact bY
      ·exact bX _ (ih v bY x hx)
     ·exact bX _ (ih w (bX _ h) x hx)
    ·simp at h;subst h;simp at hx;subst hx;exact bY
def j2c (w:Option Nat):Int:=match w with
 | some u=>(u:Int)
 | none=> -1
def j9y {s:List Nat} (hs:s.length<=1000000) (hB:∀x∈s,x<256) (hp:∀w∈aY 10 s,w.length<=1000):Ai fuel s=Mb (Cn fuel) zS (aY 10 s).length (cU 0 (0,0) [] [] (aY 10 s)):=by
 have hlen:(aY 10 s).length<=1000001:=by have:=(uT 10 s).1;omega
 have hne:=qf0.2 (uU 10 s);unfold Ai;rw[show((10:Int))=((10:Nat):Int) from rfl,Ro hs,aO];have hPB:∀w∈aY 10 s,∀x∈w,x<256:=λw hw x hx=>hB x (Dl 10 s w hw x hx)
 generalize aY 10 s=P at hlen hne hp hPB ⊢;refine jbt (T:=Cn fuel) (bad:=zS) ?_ hlen hp (P.length-1) fuel 0 (0,0) [] [] (by omega) (by simp only[fuel];omega) rfl (by simp);have get:∀i:Nat,(h:i<P.length)->P.getD ((i:Int)).toNat []=P[i]:=λi h=>by
  rw[fF,jF,dK h];rfl
 have cutw:∀i:Nat,(h:i<P.length)->sI fuel (P[i],32)=some (aY 32 P[i]):=λi h=>Ro (c:=32) (by have:=hp _ (dU h);omega)
 have cutG:∀i:Nat,(h:i<P.length)->sI fuel (P.getD ((i:Int)).toNat [],32)=some (aY 32 P[i]):=λi h=>by rw[get i h];exact cutw i h
 refine⟨λrec l body sum e sh=>?_,λrec i h l body sum e sh hb=>?_,λrec i h l body sum e sh he=>?_,λrec i h l body sum sh hl hb=>?_⟩
 ·simp only[tD];exact gO (by omega)
 ·have hi:i<P.length:=by omega
  simp only[tD];refine(fG (by omega)).trans ((cC (cZ (by omega) (by omega))).trans ?_);rw[cutG i hi,aO];refine qT.trans ((cC (cM (by omega) (by omega))).trans ((fG (by omega)).trans ((cC (cZ (by omega) (by omega))).trans ?_)));have no:∀c:Bool,c=false->True:=λ_ _=>trivial
  by_cases h1:P[i]=[]
  ·have h1':P.getD ((i:Int)).toNat []=[]:=by rw[get i hi];exact h1
   refine(fG h1').trans ?_;by_cases h2:0<e
   ·rw[aK ⟨h1,h2⟩];refine(sB (cK (by omega))).trans ((gO (by omega)).trans ((cC (cM (by omega) (by omega))).trans rfl))
   ·rw[aD λg=>h2 g.2];refine(tN (pS (by omega))).trans (qT.trans ((cC (cM (by omega) (by omega))).trans ((fG (by omega)).trans ?_)));exact(sB rfl).trans ((cC (cM (by omega) (by omega))).trans rfl)
  ·rw[aD λg=>h1 g.1];have h1':¬P.getD ((i:Int)).toNat []=[]:=by rw[get i hi];exact h1
   refine(gO h1').trans ((tN rfl).trans (qT.trans ((cC (cM (by omega) (by omega))).trans ((fG (by omega)).trans ?_))));exact(sB rfl).trans ((cC (cM (by omega) (by omega))).trans rfl)
 ·have hi:i<P.length:=by omega
  simp only[tD];refine(fG (by omega)).trans ((cC (cZ (by omega) (by omega))).trans ?_);rw[cutG i hi,aO];refine qT.trans ((cC (cM (by omega) (by omega))).trans ((gO (by omega)).trans ((tN rfl).trans (qT.trans ((cC (cM (by omega) (by omega))).trans ((gO (by omega)).trans ?_))))));exact(sB (cK (by omega))).trans ((cC (cM (by omega) (by omega))).trans rfl)
 ·have hi:i<P.length:=by omega
  have hwl:=hp _ (dU hi);have hwb:=hPB _ (dU hi)
  have hnum:∀(word:List Nat) (m:Nat),dY P[i] word m=(match aY 32 P[i] with
   | w::T=>if w=word/\T.length=m then iP T else none
   | []=>none):=λword m=>by unfold dY;rw[kar hwb];try rfl
  have hz:∀v∈aY 32 P[i],lY fuel v=some (j2c (kU v)):=λv hv=>by
   have hl1:=(uT 32 P[i]).2 v hv;rw[jb3 (by omega) λx hx=>hwb x (Dl 32 _ v hv x hx)];rfl
  rw[hnum,hnum];have hG:=get i hi;have hcl:(P[i]).length+1<=4000000000:=by omega
  have hbl:body.length+ (P[i]++[10]).length<=4000000000:=by simp;omega
  have hpc:=jnx hwl;have hcg:=cutG i hi;have hrn:=uU 32 P[i];generalize aY 32 P[i]=r3 at hz hrn hcg ⊢;rw[<-hG] at hcl hbl hpc ⊢;simp only[tD];refine(fG (by omega)).trans ((cC (cZ (by omega) (by omega))).trans ?_);rw[hcg,aO];refine qT.trans ((cC (cM (by omega) (by omega))).trans ((gO (by omega)).trans ((tN rfl).trans (qT.trans ((cC (cM (by omega) (by omega))).trans ((gO (by omega)).trans ((tN (by first | rfl | decide)).trans ?_)))))));by_cases h0:i=0
  ·rw[aK h0];refine(fG (by omega)).trans (qT.trans ?_)
   match r3,hrn with
   | [a,b,c],_=>
     have z1:=hz b (by simp);have z2:=hz c (by simp);refine(gO (λg=>g rfl)).trans ((cC rfl).trans ?_);by_cases ha:a=dD
     ·refine(gO (λg=>g ha)).trans ((cC rfl).trans ?_);simp only[ha,dG,iT,Bo,bR,iP];refine(congrArg (λo=>Option.bind o _) z1).trans ((aO ..).trans ?_);cases e1:kU b with
      | none=>exact(fG (by show(-1:Int)<0;decide)).trans ((sB rfl).trans rfl)
      | some u=>
        refine(gO (by show ¬((u:Int)<0);omega)).trans ((cC rfl).trans ((congrArg (λo=>Option.bind o _) z2).trans ((aO ..).trans ?_)));cases e2:kU c with
        | none=>exact(sB (by show decide ((-1:Int)<0)=true;decide)).trans rfl
        | some v=>
          rw[e1] at z1;rw[e2] at z2;refine(tN (pS (by show ¬((v:Int)<0);omega))).trans ((cC rfl).trans ((congrArg (λo=>Option.bind o _) z1).trans ((aO ..).trans ((cC rfl).trans ((congrArg (λo=>Option.bind o _) z2).trans ((aO ..).trans ?_))))));exact(fG (by first | trivial | rfl)).trans ((cC (cZ (by omega) (by omega))).trans ((cC (cK hcl)).trans ((cC (cK hbl)).trans ((cC (cM (by omega) (by omega))).trans rfl))))
     ·have hN:(if a=dD/\([b,c]:List (List Nat)).length=2 then iP [b,c] else none)=none:=aD λg=>ha g.1
      exact(fG ha).trans ((sB rfl).trans (by simp only[hN];rfl))
   | [a],_=>exact(fG (by simp)).trans ((sB rfl).trans (by simp;rfl))
   | [a,b],_=>exact(fG (by simp)).trans ((sB rfl).trans (by simp;rfl))
   | a::b::c::d::T,_=>exact(fG (by simp;omega)).trans ((sB rfl).trans (by simp;rfl))
  ·have hi0:¬((i:Int)=0):=by omega
   rw[aD h0];refine(gO hi0).trans (qT.trans ?_);have tailP:∀(X:Option uL),True:=λ_=>trivial
   match r3,hrn with
   | [a,b],_=>
     have z1:=hz b (by simp);refine(fG rfl).trans ((cC rfl).trans ?_);by_cases ha:a=bI
     ·refine(fG ha).trans ((cC rfl).trans ((congrArg (λo=>Option.bind o _) z1).trans ((aO ..).trans ?_)));simp only[ha,dG,iT,Bo,bR,iP];cases e1:kU b with
      | some u=>
        rw[e1] at z1;refine(sB (cK (by show(0:Int)<=(u:Int);omega))).trans ((cC (cM (by omega) (by omega))).trans ((cC rfl).trans ((congrArg (λo=>Option.bind o _) z1).trans ((aO ..).trans ?_))));exact(gO (by omega)).trans ((cC (cM (by omega) (by omega))).trans rfl)
      | none=>
        refine(tN (by show decide ((0:Int)<= -1)=false;decide)).trans ?_;refine(cC (cZ (by omega) (by omega))).trans ?_;rcases hpc with⟨x,p1,p2⟩ | ⟨p1,r,p2,p3⟩
        ·exact(congrArg (λo=>Option.bind o _) p2).trans ((aO ..).trans ((gO (λg=>g rfl)).trans ((cC (oF (by omega))).trans ((fG (by first | trivial | rfl)).trans ((cC (cZ (by omega) (by omega))).trans ((cC (cK hcl)).trans ((cC (cK hbl)).trans ((cC (cM (by omega) (by omega))).trans (by simp only[p1])))))))))
        ·exact(congrArg (λo=>Option.bind o _) p2).trans ((aO ..).trans ((fG p3).trans ((cC (cM (by omega) (by omega))).trans (by simp only[p1];rfl))))
     ·have hN:(if a=bI/\([b]:List (List Nat)).length=1 then iP [b] else none)=none:=aD λg=>ha g.1
      refine(gO ha).trans ((tN rfl).trans ?_);refine(cC (cZ (by omega) (by omega))).trans ?_;rcases hpc with⟨x,p1,p2⟩ | ⟨p1,r,p2,p3⟩
      ·exact(congrArg (λo=>Option.bind o _) p2).trans ((aO ..).trans ((gO (λg=>g rfl)).trans ((cC (oF (by omega))).trans ((fG (by first | trivial | rfl)).trans ((cC (cZ (by omega) (by omega))).trans ((cC (cK hcl)).trans ((cC (cK hbl)).trans ((cC (cM (by omega) (by omega))).trans (by simp only[hN,p1])))))))))
      ·exact(congrArg (λo=>Option.bind o _) p2).trans ((aO ..).trans ((fG p3).trans ((cC (cM (by omega) (by omega))).trans (by simp only[hN,p1];rfl))))
   | [a],_=>
     have hN:(if a=bI/\([]:List (List Nat)).length=1 then iP [] else none)=none:=aD λg=>by have:=g.2;simp at this
     refine(gO (by simp)).trans ((tN rfl).trans ?_);refine(cC (cZ (by omega) (by omega))).trans ?_;rcases hpc with⟨x,p1,p2⟩ | ⟨p1,r,p2,p3⟩
     ·exact(congrArg (λo=>Option.bind o _) p2).trans ((aO ..).trans ((gO (λg=>g rfl)).trans ((cC (oF (by omega))).trans ((fG (by first | trivial | rfl)).trans ((cC (cZ (by omega) (by omega))).trans ((cC (cK hcl)).trans ((cC (cK hbl)).trans ((cC (cM (by omega) (by omega))).trans (by simp only[hN,p1])))))))))
     ·exact(congrArg (λo=>Option.bind o _) p2).trans ((aO ..).trans ((fG p3).trans ((cC (cM (by omega) (by omega))).trans (by simp only[hN,p1];rfl))))
   | a::b::c::T,_=>
     have hN:(if a=bI/\(b::c::T).length=1 then iP (b::c::T) else none)=none:=aD λg=>by have:=g.2;simp at this
     refine(gO (by simp;omega)).trans ((tN rfl).trans ?_);refine(cC (cZ (by omega) (by omega))).trans ?_;rcases hpc with⟨x,p1,p2⟩ | ⟨p1,r,p2,p3⟩
     ·exact(congrArg (λo=>Option.bind o _) p2).trans ((aO ..).trans ((gO (λg=>g rfl)).trans ((cC (oF (by omega))).trans ((fG (by first | trivial | rfl)).trans ((cC (cZ (by omega) (by omega))).trans ((cC (cK hcl)).trans ((cC (cK hbl)).trans ((cC (cM (by omega) (by omega))).trans (by simp only[hN,p1])))))))))
     ·exact(congrArg (λo=>Option.bind o _) p2).trans ((aO ..).trans ((fG p3).trans ((cC (cM (by omega) (by omega))).trans (by simp only[hN,p1];rfl))))
def Ug:∀(P:List (List Nat)) (i:Nat) (sh:Int×Int) (l:List cW) (body:List Nat) (n:Int),cU i sh l body P=.inl n->(i:Int)+1<=n
 | [],i,sh,l,body,n,h=>by rw[cU] at h;cases h;omega
 | [e],i,sh,l,body,n,h=>by rw[cU] at h;cases h;omega
 | w::v::ws,i,sh,l,body,n,h=>by
   rw[cU] at h;split at h
   ·split at h
    ·cases h
    ·cases h;omega
   ·split at h
    ·rename_i h0;split at h
     ·cases h;omega
     ·have:=Ug _ _ _ _ _ _ h;omega
    ·split at h
     ·cases h;omega
     ·have:=Ug _ _ _ _ _ _ h;omega
def joe:∀(P:List (List Nat)) (i:Nat) (sh sh':Int×Int) (l l':List cW) (body body':List Nat) (sum:Int),cU i sh l body P=.inr (sh',(l',(sum,body')))->
  ∃w,dY w bI 1=some [sum]/\body++(oB P).flatten=body'++(w++[10])
 | [],i,sh,sh',l,l',body,body',sum,h=>by rw[cU] at h;cases h
 | [e],i,sh,sh',l,l',body,body',sum,h=>by rw[cU] at h;cases h
 | w::v::ws,i,sh,sh',l,l',body,body',sum,h=>by
   rw[cU] at h;rw[oB,sN];split at h
   ·rename_i ns hns;split at h
    ·rename_i hv;have h1:dY w bI 1=some ns:=by
      split at hns
      ·cases hns
      ·exact hns
     have hl:=jb5 h1;simp only[qha,aM] at h;obtain⟨_,_,e3,e4⟩:=h
     match ns,hl with
     | [u],_=>
       have e3:u=sum:=e3;subst e3;subst e4;refine⟨w,h1,?_⟩;rw[hv.1,hv.2,oB,aK rfl];simp
    ·cases h
   ·have step:∀ {j sh2 l2},cU j sh2 l2 (body++(w++[10])) (v::ws)=.inr (sh',(l',(sum,body')))->∃w',dY w' bI 1=some [sum]/\body++(w++[10]++(oB (v::ws)).flatten)=body'++(w'++[10]):=λhh=>by
     obtain⟨w',h1,h2⟩:=joe _ _ _ _ _ _ _ _ _ hh;exact⟨w',h1,by rw[<-h2];simp⟩
    split at h
    ·split at h
     ·cases h
     ·exact step h
    ·split at h
     ·cases h
     ·exact step h
def joj {s:List Nat} {sh:Int×Int} {l:List cW} {sum:Int} {body:List Nat} (h:cU 0 (0,0) [] [] (aY 10 s)=.inr (sh,(l,(sum,body)))):∃w,dY w bI 1=some [sum]/\s=body++(w++[10]):=by
 obtain⟨w,h1,h2⟩:=joe _ _ _ _ _ _ _ _ _ h;rw[dZ,<-jbo s.length s (aU _),jlp] at h2;exact⟨w,h1,h2⟩
def nE (u:bW) (c:bQ):Bool:=decide (c.1=u.1)&&decide (c.2.1=u.2)
def Ee {u:bW} {c:bQ}:nE u c=true↔(c.1,c.2.1)=u:=by
 simp[nE,Prod.ext_iff]
def bP (out:List bQ) (u:bW):Int:=match out.find? (nE u) with
 | some c=>c.2.2
 | none=>0
def dL (c:bQ):bW:=(c.1,c.2.1)
abbrev UT:Ty:=.prod (.int .i64) (.int .u8)
abbrev K8:Ty:=.int .u8
def wZ (a b:bW):UT.eqb a b=true↔a=b:=by
 obtain⟨a1,a2⟩:=a;obtain⟨b1,b2⟩:=b;simp only[Ty.eqb];by_cases h1:a1=b1
 ·simp[h1]
 ·simp[h1]
def jmi (u v:bW) (k:Int):∀L:List (bW×Int),gR UT K8 u (nH UT K8 v k L)=if u=v then some k else gR UT K8 u L
 | []=>by
   show(bif UT.eqb u v then some k else none)=_;by_cases h:u=v
   ·rw[aK h,(wZ u v).2 h];rfl
   ·rw[aD h];cases hq:UT.eqb u v with
    | true=>exact absurd ((wZ u v).1 hq) h
    | false=>rfl
 | a::L=>by
   show gR UT K8 u (bif UT.eqb v a.1 then(v,k)::L else a::nH UT K8 v k L)=if u=v then some k else(bif UT.eqb u a.1 then some a.2 else gR UT K8 u L)
   cases hv:UT.eqb v a.1 with
   | true=>
     have hva:=(wZ _ _).1 hv;show(bif UT.eqb u v then some k else gR UT K8 u L)=_;by_cases h:u=v
     ·rw[aK h,(wZ u v).2 h];rfl
     ·rw[aD h];cases hq:UT.eqb u v with
      | true=>exact absurd ((wZ u v).1 hq) h
      | false=>
        cases hq2:UT.eqb u a.1 with
        | true=>exact absurd (((wZ u a.1).1 hq2).trans hva.symm) h
        | false=>rfl
   | false=>
     show(bif UT.eqb u a.1 then some a.2 else gR UT K8 u (nH UT K8 v k L))=_;cases hq2:UT.eqb u a.1 with
     | true=>
       have e:=(wZ u a.1).1 hq2;have:u≠v:=λe2=>by
        have h1:=(wZ v a.1).2 (e2▸e);rw[hv] at h1;cases h1
       rw[aD this];rfl
     | false=>
       rw[aF,aF,jmi u v k L]
structure OutOK (T:List aW) (out:List bQ):Prop where
 nd:(out.map dL).Nodup
 sub:∀c∈out,dL c∈T.map (·.1)
 k1:∀c∈out,1<=c.2.2/\c.2.2<=3
def Ke {out:List bQ} (hn:(out.map dL).Nodup) {c:bQ} (hc:c∈out):bP out (dL c)=c.2.2:=by
 unfold bP;cases h:out.find? (nE (dL c)) with
 | none=>exact absurd (Ee.2 rfl) (Bj.1 h c hc)
 | some d=>
   have h1:=Te h;have h2:=Ee.1 (Tt h);obtain⟨i,hi,rfl⟩:=mS hc;obtain⟨j,hj,rfl⟩:=mS h1;have:=Sb hn (i:=i) (j:=j) (by simpa using hi) (by simpa using hj) (by simpa[dL] using h2.symm);subst this;rfl
def Ah {T:List aW} {out:List bQ} (ho:OutOK T out) {u:bW}:bP out u=0↔u∉out.map dL:=by
 unfold bP;cases h:out.find? (nE u) with
 | none=>
   refine⟨λ_ hm=>?_,λ_=>rfl⟩;obtain⟨c,hc,e⟩:=bU.1 hm;exact absurd (Ee.2 e) (Bj.1 h c hc)
 | some c=>
   have h1:=Te h;have h2:=Ee.1 (Tt h);have:=ho.k1 c h1;refine⟨λe=>by simp only at e;omega,λhn=>absurd (bU.2 ⟨c,h1,h2⟩) hn⟩
def jlf {T:List aW} {out:List bQ} (ho:OutOK T out) {v:bW} {k:Int} (hv:bP out v=0) (u:bW):bP (out++[(v.1,(v.2,k))]) u=if u=v then k else bP out u:=by
 have hnot:=(Ah ho).1 hv;unfold bP;rw[List.find?_append];by_cases h:u=v
 ·subst h;have:out.find? (nE u)=none:=Bj.2 λc hc hq=>hnot (bU.2 ⟨c,hc,Ee.1 hq⟩)
  rw[this,aK rfl];simp[nE]
 ·rw[aD h];cases hf:out.find? (nE u) with
  | some c=>rfl
  | none=>
    have:nE u (v.1,(v.2,k))=false:=by
     cases hq:nE u (v.1,(v.2,k)) with
     | false=>rfl
     | true=>exact absurd (Ee.1 hq).symm h
    simp[this]
def OutOK.add {T:List aW} {out:List bQ} (ho:OutOK T out) {v:bW} {k:Int} (hv:bP out v=0) (hT:v∈T.map (·.1)) (hk:1<=k/\k<=3):OutOK T (out++[(v.1,(v.2,k))]):=by
 have hnot:=(Ah ho).1 hv;refine⟨?_,λc hc=>?_,λc hc=>?_⟩
 ·rw[fY,yL];refine⟨ho.nd,by simp,λa ha b hb e=>?_⟩;have:b=v:=by simpa[dL] using hb
  subst this;subst e;exact hnot ha
 ·rcases aZ.1 hc with hc | hc
  ·exact ho.sub c hc
  ·rw[bF.1 hc];exact hT
 ·rcases aZ.1 hc with hc | hc
  ·exact ho.k1 c hc
  ·rw[bF.1 hc];exact hk
def OutOK.len {w h:Nat} {T:List aW} (t:Tab w h T) (hw:w<=6) (hh:h<=6) {out:List bQ} (ho:OutOK T out):out.length<=1000:=by
 have:=ho.nd.length_le_of_subset (l₂:=T.map (·.1)) (λu hu=>by
  obtain⟨c,hc,rfl⟩:=bU.1 hu;exact ho.sub c hc)
 have:=t.len hw hh;simp only[dM] at *;omega
def lD (k:Int):List bQ->List bW->Option (List bQ)
 | out,[]=>some out
 | out,v::us=>if bP out v=0 then lD k (out++[(v.1,(v.2,k))]) us else none
noncomputable def iL (T:List aW):Int->List bQ->List bJ->(List bQ) ⊕ (Int×Int)
 | _,out,[]=>.inl out
 | i,out,x::l=>if(gA T x).2=0 then(match lD x.1 out (gA T x).1 with
   | none=>.inr (i,8)
   | some out'=>iL T (i+1) out' l) else .inr (i,(gA T x).2)
def jrm {T:List aW} {l:Int×Int} {tq:Int}:∀(n:Nat) (p:Int) (u:List bW),wk T l tq n p=some u->∀v∈u,v∈T.map (·.1)
 | 0,_,_,h=>by cases h
 | n+1,p,u,h=>by
   simp only[wk] at h;split at h
   ·cases h;intro v hv;cases hv
   ·cases hl:gQ T l p with
    | none=>rw[hl] at h;cases h
    | some x=>
      rw[hl] at h;simp only at h;split at h
      ·cases h
      ·obtain⟨v,hv,rfl⟩:=cX.1 h;intro a ha;rcases bL.1 ha with rfl | ha
       ·exact bU.2 ⟨x,(sJ hl).1,rfl⟩
       ·exact jrm n _ v hv a ha
def je4 {T:List aW} {x:bJ}:∀v∈(gA T x).1,v∈T.map (·.1):=by
 unfold gA;by_cases ho:OrdP x
 ·rw[aK ho];cases hu:kM T x.2.1 x.2.2.2 x.2.2.1 with
  | none=>intro v hv;cases hv
  | some u=>exact jrm _ _ _ hu
 ·rw[aD ho];intro v hv;cases hv
def jre {T:List aW} {x:bJ} (h:(gA T x).2=0):1<=x.1/\x.1<=3:=by
 unfold gA at h;by_cases ho:OrdP x
 ·exact⟨ho.k1,ho.k3⟩
 ·rw[aD ho] at h;cases h
def Yb {T:List aW} {k:Int} (hk:1<=k/\k<=3):∀(us:List bW) (out out':List bQ),OutOK T out->(∀v∈us,v∈T.map (·.1))->lD k out us=some out'->OutOK T out'
 | [],out,out',ho,_,e=>by cases e;exact ho
 | v::us,out,out',ho,hu,e=>by
   simp only[lD] at e;split at e
   ·rename_i h0;exact Yb hk us _ _ (ho.add h0 (hu v (bY ..)) hk) (λa ha=>hu a (bX _ ha)) e
   ·cases e
def Sr {T:List aW}:∀(l:List bJ) (i:Int) (out out':List bQ),OutOK T out->iL T i out l=.inl out'->OutOK T out'
 | [],i,out,out',ho,e=>by cases e;exact ho
 | x::l,i,out,out',ho,e=>by
   simp only[iL] at e;split at e
   ·rename_i h0;cases ha:lD x.1 out (gA T x).1 with
    | none=>rw[ha] at e;cases e
    | some o2=>
      rw[ha] at e;exact Sr l _ _ _ (Yb (jre h0) _ _ _ ho je4 ha) e
   ·cases e
def Ar {T:List aW}:OutOK T []:=⟨qg5,(λc hc=>by cases hc),(λc hc=>by cases hc)⟩
def kA (T:List aW) (out:List bQ):List bQ:=T.filterMap λx=>if bP out x.1=0 then none else some (x.1.1,(x.1.2,bP out x.1))
def jyx {T:List aW} {out:List bQ} (ho:OutOK T out) (c:bQ):c∈kA T out↔c∈out:=by
 unfold kA;rw[yK];constructor
 ·rintro ⟨x,hx,e⟩;split at e
  ·cases e
  ·rename_i h0;have:∃d∈out,dL d=x.1:=by
    have:x.1∈out.map dL:=by
     apply sO;intro hn;exact h0 ((Ah ho).2 hn)
    exact bU.1 this
   obtain⟨d,hd,ed⟩:=this;have hk:=Ke ho.nd hd;rw[ed] at hk;rw[hk] at e;cases e;rw[<-ed];exact hd
 ·intro hc;obtain⟨x,hx,ex⟩:=bU.1 (ho.sub c hc);refine⟨x,hx,?_⟩;have hk:=Ke ho.nd hc;have:=ho.k1 c hc;rw[ex,hk,aD (by omega)];rfl
def Ho {n:Int} (h:0<=n) (h2:n<=1000):RowKit.wrap64 n=n:=by unfold RowKit.wrap64;omega
def Qo {w h:Nat} {T:List aW} (t:Tab w h T) (out:List bQ):(kA T out).Pairwise λa b=>lE a b<0:=by
 have hp:T.Pairwise λx y=>x∈T/\y∈T/\(x.1.1<y.1.1\/x.1.1=y.1.1/\x.1.2<y.1.2):=by
  have:=To.1 t.asc;rw[pQ] at this ⊢;intro i j hi hj hij;exact⟨dU _,dU _,this i j hi hj hij⟩
 refine List.Pairwise.filterMap _ (λx y hxy a ha b hb=>?_) hp;obtain⟨hx,hy,hlt⟩:=hxy;have lx:=t.li hx;have ly:=t.li hy;split at ha<;>simp only[Option.mem_def,reduceCtorEq,aG] at ha
 split at hb<;>simp only[Option.mem_def,reduceCtorEq,aG] at hb
 subst ha hb;rw[wX];simp only;rw[Ho lx.e0 (by have:=lx.e2;omega),Ho ly.e0 (by have:=ly.e2;omega)];exact hlt
def Qn {w h:Nat} {T:List aW} (t:Tab w h T) {out:List bQ} (ho:OutOK T out):out.Perm (kA T out):=by
 have n1:out.Nodup:=List.Pairwise.of_map _ (λa b h e=>h (by rw[e])) ho.nd;have n2:(kA T out).Nodup:=(Qo t out).imp λ{a b} h e=>by subst e;rw[wX] at h;omega
 exact(qf6 n1 n2).2 λc=>(jyx ho c).symm
def jp2 {w h:Nat} {T:List aW} (t:Tab w h T) {out:List bQ} (ho:OutOK T out):sortC lE out=kA T out:=by
 have hs:=Qo t out;have hp:=(sZ lE out).trans (Qn t ho);refine Mt lE (λx hx y hy h1 h2=>?_) (Vi lE jdz out) (hs.imp λ{a b} h c=>by rw[wX] at *;omega) hp;have hx:=hp.subset hx;have hy:=hp.subset hy;obtain⟨i,hi,rfl⟩:=mS hx;obtain⟨j,hj,rfl⟩:=mS hy;rw[pQ] at hs;rcases Bf i j with g | g | g
 ·exact absurd (hs i j hi hj g) h1
 ·subst g;rfl
 ·exact absurd (hs j i hj hi g) h2
def j4k {w h:Nat} {T:List aW} (t:Tab w h T) {out:List bQ} (ho:OutOK T out):Ff out=true:=by
 unfold Ff;rw[jp2 t ho];exact jcu (Qo t out)
section
variable {w h:Nat} {T:List aW}
def kao (hT:TB T) {l:Int×Int} {tq:Int} {β:Type} (bad:β) (K:List bW->Option β)
  {step:((List bW×Int)->Option β)->(List bW×Int)->Option β}
  (hs:∀rec s,step rec s=bif(decide (s.2≠tq)) then(bif(!(gR KT VT ((l.1,l.2),s.2) (tS T)).isSome) then(some bad) else(bif(decide (tq< ((gR KT VT ((l.1,l.2),s.2) (tS T)).getD ((0,0),0)).2)) then(some bad) else(aA (eP (s.1.length+1)) (rec ((s.1++[(((gR KT VT ((l.1,l.2),s.2) (tS T)).getD ((0,0),0)).1.1,((gR KT VT ((l.1,l.2),s.2) (tS T)).getD ((0,0),0)).1.2)]),((gR KT VT ((l.1,l.2),s.2) (tS T)).getD ((0,0),0)).2))))) else K s.1) (p:Int):
  cN step fuel ([],p)=(match kM T l tq p with
   | none=>some bad
   | some u=>K u):=by
 refine(Ep (λs:List bW×Int=>(s.1=[]\/(0<=s.2/\s.2<=24/\s.1.length<=s.2.toNat))) (λs=>mm s.2) (λs=>(match kM T l tq s.2 with
  | none=>some bad
  | some u=>K (s.1++u))) ?_ fuel ([],p) (.inl rfl) (by unfold mm;simp only[fuel];split<;>omega)).trans (by simp)
 rintro ⟨A,p⟩ rec hI hrec;simp only at hI;rw[hs,Co hT];simp only;by_cases hp:p=tq
 ·simp only[hp,ne_eq,rA,bM,aF,bR];rw[jQ]
 ·simp only[hp,ne_eq,sS,bA,aB,cO];rw[show(l.1,l.2)=l from rfl,jmh];cases hl:gQ T l p with
  | none=>rfl
  | some x=>
    obtain⟨h1,h2,h3⟩:=sJ hl;obtain⟨b1,b2,b3⟩:=hT x h1;simp only[eX,Option.isSome_some,fC,aF,nL];by_cases hq:tq<x.2.2.2
    ·simp only[hq,bA,aB,bR]
    ·simp only[hq,bM,aF,cO];have hA:A.length<=p.toNat:=by rcases hI with e | ⟨_,_,e⟩<;>(try subst e)<;>(try simp)<;>omega
     rw[oF (by omega)];simp only[aA,aB];rw[hrec (A++[x.1],x.2.2.2) (.inr ⟨by simp only;omega,by simp only;omega,by simp only[dS,kC];omega⟩) (by
      unfold mm;simp only;rw[aK (by omega),aK (by omega)];omega)]
     simp only;cases kM T l tq x.2.2.2 with
     | none=>rfl
     | some u=>simp
def jrc {x:bJ} (h:¬OrdP x):gA T x=([],1):=by unfold gA;rw[aD h]
def jrd {x:bJ} (h:OrdP x):gA T x=(match kM T x.2.1 x.2.2.2 x.2.2.1 with
 | none=>([],7)
 | some u=>(u,0)):=by
 unfold gA;rw[aK h];try (cases kM T x.2.1 x.2.2.2 x.2.2.1<;>rfl)
def kan (hT:TB T) {l:Int×Int} {tq p:Int} {u:List bW} (h:kM T l tq p=some u):u.length<=24:=by
 rcases jfc hT _ _ _ h with rfl | ⟨g1,g2,g3⟩
 ·simp
 ·omega
abbrev wP:=Int×(Int×List bQ)
noncomputable def pP (T:List aW) (w h:Nat) (l:List bJ):wP×(Int×Int):=match iL T 0 [] l with
 | .inl out=>(((w:Int),((h:Int),kA T out)),(0,0))
 | .inr e=>((0,(0,[])),e)
noncomputable def qY (T:List aW) (w h:Nat) (l:List bJ) (i:Nat) (out:List bQ):wP×(Int×Int):=match iL T (i:Int) out (l.drop i) with
 | .inl out=>(((w:Int),((h:Int),kA T out)),(0,0))
 | .inr e=>((0,(0,[])),e)
def MapOK (out:List bQ) (M:List (bW×Int)):Prop:=∀u,(gR UT K8 u M).getD 0=bP out u
def MapOK.add {out:List bQ} (ho:OutOK T out) {M:List (bW×Int)} (hM:MapOK out M) {v:bW} {k:Int} (hv:bP out v=0):MapOK (out++[(v.1,(v.2,k))]) (nH UT K8 v k M):=λu=>by
 rw[jmi,jlf ho hv];by_cases e:u=v
 ·rw[aK e,aK e];rfl
 ·rw[aD e,aD e,hM u]
def wY {α:Type} {l:List α} {i:Nat} (hi:i<l.length):l.drop i=l[i]::l.drop (i+1):=mB hi
def lH {α:Type} {l:List α} {i:Nat} {d:α} (hi:i<l.length):l.getD ((i:Int).toNat) d=l[i]:=by
 rw[fF,jF,dK hi];rfl
def jfv (t:Tab w h T) (hw:1<=w/\w<=6) (hh:1<=h/\h<=6) {l:List bJ} (hl:l.length<=1000000):Mk fuel (((w:Int),(h:Int)),l)=some (pP T w h l):=by
 have hT:=t.tb hw.2 hh.2;unfold Mk;simp only;rw[Bw hw hh,aO];simp only[ne_eq,rA,bM,aF];rw[j45 t hw hh,aO];refine(Ep (λs:List bQ×(Int×((Int×(Int×Unit))×List (bW×Int)))=>∃i:Nat,s.2.1=(i:Int)/\i<=l.length/\OutOK T s.1/\MapOK s.1 s.2.2.2) (λs=>l.length-s.2.1.toNat) (λs=>some (qY T w h l s.2.1.toNat s.1)) ?_ fuel _ ⟨0,rfl,fM _,Ar,λu=>rfl⟩ (by simp only[fuel];omega)).trans rfl;rintro ⟨out,i',vv,M⟩ rec ⟨i,hi',hi,ho,hM⟩ hrec;simp only at hi' ho hM;subst hi';simp only;have hob:=ho.len t hw.2 hh.2;by_cases hlt:(i:Int)< ((l.length:Nat):Int)
 ·have hi2:i<l.length:=by omega
  simp only[hlt,bA,aB];rw[cZ (by omega) hlt];simp only[aA,aB];rw[lH hi2];generalize hx:l[i]=x;rw[show(x.1,((x.2.1.1,x.2.1.2),(x.2.2.1,x.2.2.2)))=x from rfl];obtain⟨b,eb,hb⟩:=jns x;rw[eb,aO];have hdrop:l.drop i=x::l.drop (i+1):=by rw[wY hi2,hx]
  cases b with
  | false=>
    have hno:¬OrdP x:=λh=>by have:=hb.2 h;cases this
    simp only[yM,aB];unfold qY;rw[fF,hdrop];simp only[iL];rw[jrc hno];rfl
  | true=>
    have hyes:=hb.1 rfl;simp only[fC,aF];refine(kao hT (l:=x.2.1) (tq:=x.2.2.2) (((0,(0,[])),((i:Int),7)):wP×(Int×Int)) (λA=>(aA (cT 0 ((A.length:Nat):Int) A.length&&decide (((A.length:Nat):Int)<=((A.length:Nat):Int))&&decide (((A.length:Nat):Int)<=((A.length:Nat):Int))) (cN (λrec6 (x6:((List (Int×(Int×Int)))×(Int×((Int×(Int×Unit))×(List ((Int×Int)×Int))))))=>bif(decide (x6.2.1< ((A.length:Nat):Int))) then(aA (aI x6.2.1 A.length) (bif(decide (((gR (.prod (.int .i64) (.int .u8)) (.int .u8) ((A.getD (0+x6.2.1.toNat) (0,0)).1,(A.getD (0+x6.2.1.toNat) (0,0)).2) x6.2.2.2).getD 0)≠0)) then(some ((0,(0,[])),((i:Int),8))) else(aA (eP (x6.1.length+1)) (aA (aC (x6.2.1+1)) (rec6 ((x6.1++[((A.getD (0+x6.2.1.toNat) (0,0)).1,((A.getD (0+x6.2.1.toNat) (0,0)).2,x.1))]),((x6.2.1+1),((x6.2.2.1.1,(x6.2.2.1.2.1,())),(nH (.prod (.int .i64) (.int .u8)) (.int .u8) ((A.getD (0+x6.2.1.toNat) (0,0)).1,(A.getD (0+x6.2.1.toNat) (0,0)).2) x.1 x6.2.2.2))))))))) else(aA (aC ((i:Int)+1)) (rec (x6.1,(((i:Int)+1),((x6.2.2.1.1,(x6.2.2.1.2.1,())),x6.2.2.2)))))) fuel (out,(0,((vv.1,(vv.2.1,())),M)))))) (λrec s=>rfl) x.2.2.1).trans ?_;have hU:=jrd (T:=T) hyes;have hW:∀u,kM T x.2.1 x.2.2.2 x.2.2.1=some u->gA T x=(u,0):=λu hu=>by rw[hU,hu]
    cases hu:kM T x.2.1 x.2.2.2 x.2.2.1 with
    | none=>
      rw[hu] at hU;simp only at hU ⊢;unfold qY;rw[fF,hdrop];simp only[iL];rw[hU];rfl
    | some A=>
      have hUA:=hW A hu;have hA24:=kan hT hu;have hAm:∀v∈A,v∈T.map (·.1):=by have:=je4 (T:=T) (x:=x);rw[hUA] at this;exact this
      simp only;have e1:cT 0 ((A.length:Nat):Int) A.length=true:=fH.2 ⟨by omega,by omega,by omega⟩;simp only[e1,Lt,bA,kH,aA,aB]
      have hpat:some (qY T w h l i out)=(match lD x.1 out A with
        | none=>some (((0,(0,[])),((i:Int),8)):wP×(Int×Int))
        | some out'=>some (qY T w h l (i+1) out')):=by
       unfold qY;rw[hdrop];simp only[iL];rw[hUA];simp only[bR];cases lD x.1 out A with
       | none=>rfl
       | some o=>rw[show((i+1:Nat):Int)=(i:Int)+1 by omega]
      rw[fF,hpat]
      refine(Ep (λs:List bQ×(Int×((Int×(Int×Unit))×List (bW×Int)))=>∃j:Nat,s.2.1=(j:Int)/\j<=A.length/\OutOK T s.1/\MapOK s.1 s.2.2.2) (λs=>A.length-s.2.1.toNat) (λs=>(match lD x.1 s.1 (A.drop s.2.1.toNat) with
       | none=>some (((0,(0,[])),((i:Int),8)):wP×(Int×Int))
       | some out'=>some (qY T w h l (i+1) out'))) ?_ fuel _ ⟨0,rfl,fM _,ho,hM⟩ (by simp only[fuel];omega)).trans (by simp)
      rintro ⟨o6,j',v6,M6⟩ rec6 ⟨j,hj',hj,ho6,hM6⟩ hrec6;simp only at hj' ho6 hM6;subst hj';simp only;have ho6b:=ho6.len t hw.2 hh.2;by_cases hjl:(j:Int)< ((A.length:Nat):Int)
      ·have hj2:j<A.length:=by omega
       simp only[hjl,bA,aB];rw[cZ (by omega) hjl];simp only[aA,aB];rw[iC,lH hj2,fF,wY hj2];generalize hv:A[j]=v;have hvT:v∈T.map (·.1):=hAm v (by rw[<-hv];exact dU _);rw[show(v.1,v.2)=v from rfl,hM6 v];simp only[lD];by_cases h0:bP o6 v=0
       ·simp only[h0,ne_eq,rA,bM,aF,bR];rw[oF (by omega),cM (by omega) (by omega)];simp only[aA,aB];rw[hrec6 _ ⟨j+1,by simp,hj2,ho6.add h0 hvT ⟨hyes.k1,hyes.k3⟩,hM6.add ho6 h0⟩ (by simp only;omega)];simp only;rw[show((j:Int)+1).toNat=j+1 by omega]
       ·simp only[h0,ne_eq,sS,bA,aB,cO]
      ·have hj2:j=A.length:=by omega
       subst hj2;simp only[hjl,bM,aF];rw[cM (by omega) (by omega)];simp only[aA,aB];rw[fF,sT];simp only[lD];rw[hrec _ ⟨i+1,by simp,hi2,ho6,hM6⟩ (by simp only;omega)];simp only;rw[show((i:Int)+1).toNat=i+1 by omega]
 ·have hi2:i=l.length:=by omega
  subst hi2;simp only[hlt,bM,aF];unfold Vg qY;simp only;rw[show(List.length (α:=bQ) out).ble 1000000=true by rw[aP];exact cK (by omega),j4k t ho,jp2 t ho];simp only[kH,aB,eX,aO];have e1:cT 0 (((kA T out).length:Nat):Int) (kA T out).length=true:=fH.2 ⟨by omega,by omega,by omega⟩;simp only[e1,Lt,bA,kH,aA,aB,mC,mN,dP];rw[fF,sT];simp only[iL]
end
def lA:List bW->List Int->List bQ
 | u::U,k::A=>if k=0 then lA U A else(u.1,(u.2,k))::lA U A
 | _,_=>[]
section
variable {w h:Nat} {T:List aW}
def jgo (t:Tab w h T) (hw:1<=w/\w<=6) (hh:1<=h/\h<=6) {A:List Int} (hA:A.length<=1000000):Bq fuel (((w:Int),(h:Int)),A)=some ((w:Int),((h:Int),lA (T.map (·.1)) A)):=by
 have hlen:=t.len hw.2 hh.2;unfold Bq;simp only;rw[t.un,aO];have hUl:(T.map (·.1)).length<=1000:=by simpa using hlen
 generalize T.map (·.1)=U at hUl;refine(Ep (λs:Int×(Int×(Int×List bQ))=>∃i:Nat,s.1=(i:Int)/\i<=U.length/\s.2.2.2.length<=i/\s.2.1=(w:Int)/\s.2.2.1=(h:Int)) (λs=>U.length-s.1.toNat) (λs=>some ((w:Int),((h:Int),s.2.2.2++lA (U.drop s.1.toNat) (A.drop s.1.toNat)))) ?_ fuel _ ⟨0,rfl,fM _,aU _,rfl,rfl⟩ (by simp only[fuel];omega)).trans (by simp);rintro ⟨i',w',h',acc⟩ rec ⟨i,hi',hi,hacc,hw',hh'⟩ hrec;simp only at hi' hacc hw' hh';subst hi' hw' hh';simp only;by_cases hlt:(i:Int)< ((U.length:Nat):Int)
 rotate_left
 ·have:i=U.length:=by omega
  subst this;simp only[hlt,bM,aF];rw[fF,sT];simp[lA]
 have hi2:i<U.length:=by omega
 simp only[hlt,bA,aB];by_cases hla:(i:Int)< ((A.length:Nat):Int)
 rotate_left
 ·simp only[hla,bM,aF];rw[fF,show A.drop i=[] from Lg (by omega)];cases U.drop i<;>simp[lA]
 have hi3:i<A.length:=by omega
 simp only[hla,bA,aB];rw[cZ (by omega) hla,cZ (by omega) hlt];simp only[aA,aB];rw[lH hi3,lH hi2,fF,wY hi2,wY hi3];simp only[lA];by_cases h0:A[i]=0
 ·simp only[h0,ne_eq,rA,bM,aF,bR];rw[cM (by omega) (by omega)];simp only[aB];rw[hrec _ ⟨i+1,by simp,hi2,by simp only;omega,rfl,rfl⟩ (by simp only;omega)];simp only;rw[show((i:Int)+1).toNat=i+1 by omega]
 ·simp only[h0,ne_eq,sS,bA,aB,cO];rw[oF (by omega),cM (by omega) (by omega)];simp only[aB];rw[hrec _ ⟨i+1,by simp,hi2,by simp only[dS,kC];omega,rfl,rfl⟩ (by simp only;omega)];simp only;rw[show((i:Int)+1).toNat=i+1 by omega,cD];rfl
def jfa (f:bW->Int):∀T:List aW,lA (T.map (·.1)) (T.map λx=>f x.1)=T.filterMap λx=>if f x.1=0 then none else some (x.1.1,(x.1.2,f x.1))
 | []=>rfl
 | x::T=>by
   simp only[dA,lA,Sz];rw[jfa f T];by_cases h:f x.1=0
   ·simp[h]
   ·simp[h]
def j6o (t:Tab w h T) (hw:1<=w/\w<=6) (hh:1<=h/\h<=6) {j:Nat} (hj:j<T.length):Ul fuel (((w:Int),(h:Int)),T[j].1)=some (j:Int):=by
 have hlen:=t.len hw.2 hh.2;have hx:=dU hj;have li:=t.li hx;have l1:=li.u0;have l2:=li.u1;have l3:=li.e0;have l4:=li.e2
 have hrn:=bS.1 t.rn _ hx;unfold jo1 at hrn;have hwh:4* (w:Int)*h<=4*6*6:=by
  have:w*h<=6*6:=pU hw.2 hh.2;have e:(4* (w:Int)*h)=4* ((w*h:Nat):Int):=by rw[Lk,Uc]
  omega
 unfold Ul;simp only;have n1:¬(T[j].1.1<0):=by omega
 have n2:¬(4* (w:Int)*h<=T[j].1.1):=by omega
 have n3:¬(T[j].1.2<0):=by omega
 have n4:¬((2:Int)<T[j].1.2):=by omega
 have hw2:(0:Int)<=4* (w:Int)*h:=by omega
 simp only[n1,bM,aF];rw[cM (by omega) (by omega),cM (by omega) (by omega)];simp only[aA,aB,n2,n3,n4,bM,aF];split at hrn<;>try (cases hrn;done)
 rename_i n hn;rw[hn,aO,t.un,aO];have hgt:T[j].1.1<n:=by simpa using hrn
 apply Ret.eq;refine gZ (λi:Int=>0<=i/\i<=j) (λi=>j+1-i.toNat) ?_ fuel 0 ⟨by omega,by omega⟩ (by simp only[fuel];omega);rintro i' rec ⟨i0,i1⟩ hrec;obtain⟨i,rfl⟩:∃i:Nat,i'=(i:Int):=⟨i'.toNat,by omega⟩
 have hi:i<T.length:=by omega
 have hg:(T.map (·.1)).getD ((i:Int).toNat) (0,0)=T[i].1:=by
  rw[fF,jF,jH,dK hi];rfl
 rw[hg];have hin:aI (i:Int) (T.map (·.1)).length=true:=cZ (by omega) (by rw[dM];omega);refine aS (λ_=>?_) λg=>absurd (show(i:Int)< (((T.map (·.1)).length:Nat):Int) by rw[dM];omega) g
 refine aS (λ_=>bB hin ?_) λg=>absurd (show(0:Int)<=n by omega) g
 have hmin:min T[j].1.1 n=T[j].1.1:=by omega
 rw[hmin];have next:T[i].1≠T[j].1->Ret (aA (aC ((i:Int)+1)) (rec ((i:Int)+1))) λx=>x=(j:Int):=λhne=>by
  have:i≠j:=λe=>by subst e;exact hne rfl
  exact cI (hrec _ ⟨by omega,by omega⟩ (by omega))
 have lii:=t.li (dU hi);have:=lii.e0;have:=lii.e2
 refine aS (λg1=>bB hin (cI (aS (λg2=>cB ?_) λg2=>next λe=>g2 (by rw[e])))) λg1=>next λe=>g1 (by rw[e])
 have:=t.unitInj (dU hi) hx (oP g1 g2);have hij:i=j:=by
  have hnd:=t.ndU;exact Sb hnd (i:=i) (j:=j) (by simpa using hi) (by simpa using hj) (by simp[this])
 rw[hij]
def j6n (t:Tab w h T) (hw:1<=w/\w<=6) (hh:1<=h/\h<=6) {l:List bJ} (hl:l.length<=1000000):Lx fuel (((w:Int),(h:Int)),l)=some (pP T w h l):=by
 have hT:=t.tb hw.2 hh.2;have hlen:=t.len hw.2 hh.2;unfold Lx;simp only;rw[t.un,aO];have hUl:(T.map (·.1)).length=T.length:=by simp
 have e1:(decide (0<=(((T.map (·.1)).length:Nat):Int))&&decide ((((T.map (·.1)).length:Nat):Int)<=(((T.map (·.1)).length:Nat):Int))&&decide ((((T.map (·.1)).length:Nat):Int)<=1000000))=true:=by
  rw[hUl];simp only[aN,aH];omega
 apply Ret.eq;refine bB e1 ?_;refine gZ (λs:Int×((Int×(Int×Unit))×(List Int×Option Nat))=>∃(i:Nat) (out:List bQ),s.1=(i:Int)/\i<=l.length/\OutOK T out/\s.2.2.1=(T.map λx=>bP out x.1)/\qY T w h l i out=pP T w h l) (λs=>l.length-s.1.toNat) ?_ fuel _ ⟨0,[],rfl,fM _,Ar,?_,rfl⟩ (by simp only[fuel];omega)
 rotate_left
 ·simp only[dM];clear e1 hT hlen hUl t;induction T with
  | nil=>rfl
  | cons x T ih=>simp only[dG,Ta,dA,ih];rfl
 rintro ⟨i',vv,A,cp⟩ rec ⟨i,out,hi',hi,ho,hA,hF⟩ hrec;simp only at hi' hA;subst hi' hA;simp only;refine aS (λhlt=>?_) λhge=>?_
 ·have hi2:i<l.length:=by omega
  refine bB (cZ (by omega) hlt) ?_;rw[lH hi2];generalize hx:l[i]=x;rw[show(x.1,((x.2.1.1,x.2.1.2),(x.2.2.1,x.2.2.2)))=x from rfl,j6p t hw hh,aO];have hdrop:l.drop i=x::l.drop (i+1):=by rw[wY hi2,hx]
  have hF':(match iL T (i:Int) out (l.drop i) with
   | .inl out=>((((w:Int),((h:Int),kA T out)),(0,0)):wP×(Int×Int))
   | .inr e=>((0,(0,[])),e))=pP T w h l:=hF
  rw[hdrop] at hF';simp only[iL] at hF';refine aS (λhne=>?_) λh0=>?_
  ·rw[aD hne] at hF';exact cB hF'
  ·have h0:(gA T x).2=0:=by simpa using h0
   rw[aK h0] at hF';have hk:=jre h0;have hm:=je4 (T:=T) (x:=x);have hle:=kad hT x;generalize (gA T x).1=us at hF' hm hle
   refine gZ (λs:Int×((Int×(Int×Unit))×(List Int×Option Nat))=>∃(j:Nat) (o6:List bQ),s.1=(j:Int)/\j<=us.length/\OutOK T o6/\s.2.2.1=(T.map λx=>bP o6 x.1)/\(match lD x.1 o6 (us.drop j) with
    | none=>(((0,(0,[])),((i:Int),8)):wP×(Int×Int))
    | some out'=>qY T w h l (i+1) out')=pP T w h l) (λs=>us.length-s.1.toNat) ?_ fuel _ ⟨0,out,rfl,fM _,ho,rfl,?_⟩ (by simp only[fuel];omega)
   rotate_left
   ·rw[fZ,<-hF'];cases lD x.1 out us with
    | none=>rfl
    | some o=>
      simp only;unfold qY;rw[show((i+1:Nat):Int)=(i:Int)+1 by omega];try (cases iL T ((i:Int)+1) o (l.drop (i+1))<;>rfl)
   rintro ⟨j',v6,A6,c6⟩ rec6 ⟨j,o6,hj',hj,ho6,hA6,hF6⟩ hrec6;simp only at hj' hA6;subst hj' hA6;simp only;refine aS (λhjl=>?_) λhjg=>?_
   ·have hj2:j<us.length:=by omega
    have hin:aI (j:Int) us.length=true:=cZ (by omega) hjl;rw[wY hj2] at hF6;rw[lH hj2];obtain⟨y,hy,ey⟩:=bU.1 (hm us[j] (dU hj2));obtain⟨q,hq,rfl⟩:=mS hy;have ey:T[q].1=us[j]:=ey;generalize us[j]=v at hF6 ey ⊢;subst ey;have liq:=t.li hy;have:=liq.e0;have:=liq.e2
    simp only[lD] at hF6;refine bB hin (bB hin (cI ?_));rw[show((T[q].1.1,T[q].1.2):Int×Int)=T[q].1 from rfl,j6o t hw hh hq,aO];have hqi:aI (q:Int) (T.map λx=>bP o6 x.1).length=true:=cZ (by omega) (by rw[dM];omega);have hgq:(T.map λx=>bP o6 x.1).getD ((q:Int).toNat) 0=bP o6 T[q].1:=by
     rw[fF,jF,jH,dK hq];rfl
    refine bB hqi ?_;rw[hgq];refine aS (λhne=>?_) λh00=>?_
    ·rw[aD hne] at hF6;exact cB hF6
    ·have h00:bP o6 T[q].1=0:=by simpa using h00
     rw[aK h00] at hF6;refine bB (cZ (by omega) hlt) (bB hqi (cI (hrec6 _ ⟨j+1,o6++[(T[q].1.1,(T[q].1.2,x.1))],by simp,hj2,ho6.add h00 (bU.2 ⟨_,hy,rfl⟩) hk,?_,hF6⟩ (by simp only;omega))));simp only;rw[fF];refine qgt (by simp) λp hp1 hp2=>?_
     rw[List.getElem_set];simp only[qgu];have hp:p<T.length:=by simpa using hp2
     have ek:=jlf ho6 (v:=T[q].1) (k:=x.1) h00 T[p].1;refine Eq.trans ?_ ek.symm;by_cases e:q=p
     ·subst e;rw[aK rfl,aK rfl]
     ·rw[aD e,aD];intro e2;have:=t.unitInj (dU hp) hy e2;exact e (Sb t.ndU (i:=q) (j:=p) (by simpa using hq) (by simpa using hp) (by simp[this]))
   ·have hj2:j=us.length:=by omega
    subst hj2;rw[sT] at hF6;exact cI (hrec _ ⟨i+1,o6,by simp,hi2,ho6,rfl,hF6⟩ (by simp only;omega))
 ·have hi2:i=l.length:=by omega
  subst hi2;rw[jgo t hw hh (by simp;omega),aO];refine cB ?_;rw[<-hF];unfold qY;rw[sT];simp only[iL];have:=jfa (bP out) T;rw[this];rfl
end
end X
end Go.Vm
namespace Go.Vm
namespace X
open W Go.RowKit
section
variable {w h:Nat} {T:List aW}
def j0t (T:List aW) (l:Int×Int) (p:Int):gQ (T.filter λx=>decide (x.2.1.1=l.1)&&decide (x.2.1.2=l.2)) l p=gQ T l p:=by
 unfold gQ;rw[List.find?_filter]
 congr 1
 funext x
 unfold sH;cases decide (x.2.1.1=l.1)<;>cases decide (x.2.1.2=l.2)<;>simp
def uP (T:List aW) (l:Int×Int):Nat->Option aW:=λp=>gQ T l (p:Int)
def j0o (T:List aW) (n:Nat) (l:Int×Int):jbk T n l=(List.range n).filterMap (uP T l):=by
 unfold jbk
 congr 1
 funext p
 exact j0t T l p
def Am (T:List aW) (w h:Nat) (k c:Nat):List aW:=(List.range (2* (w+h)+1)).filterMap (uP T ((k:Int)+1,(c:Int)-(w:Int)))
def xR (T:List aW) (w h:Nat) (k:Nat):List aW:=(List.range (w+ (w+h)+1)).flatMap (Am T w h k)
def je7 (T:List aW) (w h:Nat):mX T w h=(List.range 4).flatMap (xR T w h):=by
 unfold mX xR Am;simp only[j0o]
def jg2 {l:Int×Int} {p:Nat} {x:aW} (e:uP T l p=some x):x∈T/\x.2.1=l/\x.2.2.1=p:=sJ e
def jl3 {k c:Nat} {x:aW} (e:x∈Am T w h k c):x∈T/\x.2.1=((k:Int)+1,(c:Int)-(w:Int)):=by
 obtain⟨p,_,hp⟩:=yK.1 e;exact⟨(jg2 hp).1,(jg2 hp).2.1⟩
def jld {k:Nat} {x:aW} (e:x∈xR T w h k):x∈T/\x.2.1.1=(k:Int)+1:=by
 obtain⟨c,_,hc⟩:=yH.1 e;have:=jl3 hc;exact⟨this.1,by rw[this.2]⟩
def Oa (t:Tab w h T) {x:aW}:x∈mX T w h↔x∈T:=by
 rw[je7];constructor
 ·intro e;obtain⟨k,_,hk⟩:=yH.1 e;exact(jld hk).1
 ·intro hx;have li:=t.li hx;have a1:=li.k1;have a2:=li.k4;have a3:=li.c0;have a4:=li.c1;have a5:=li.f0;have a6:=li.ft;have a7:=li.t1
  refine yH.2 ⟨(x.2.1.1-1).toNat,jI.2 (by omega),yH.2 ⟨(x.2.1.2+w).toNat,jI.2 (by omega),yK.2 ⟨x.2.2.1.toNat,jI.2 (by omega),?_⟩⟩⟩;unfold uP;have e1:(((x.2.1.1-1).toNat:Nat):Int)+1=x.2.1.1:=by omega
  have e2:(((x.2.1.2+w).toNat:Nat):Int)-(w:Int)=x.2.1.2:=by omega
  have e3:((x.2.2.1.toNat:Nat):Int)=x.2.2.1:=by omega
  rw[e1,e2,e3];exact jl0 t.key hx
def rS (p q:(Int×Int)×(Int×Int)):Prop:=p.1.1<q.1.1\/p.1.1=q.1.1/\(p.1.2<q.1.2\/p.1.2=q.1.2/\p.2.2<=q.2.1)
def jgs {α:Type} {r:α->α->Bool} {P:α->Prop} (tr:∀x y z,P y->r x y=true->r y z=true->r x z=true):∀ {l:List α},(∀x∈l,P x)->qF r l=true->l.Pairwise λx y=>r x y=true
 | [],_,_=>List.Pairwise.nil
 | x::l,hP,h=>by
   simp only[qF,aN] at h;have ih:=jgs tr (λy hy=>hP y (bX _ hy)) h.2;refine mT.2 ⟨λy hy=>?_,ih⟩;cases l with
   | nil=>cases hy
   | cons z l=>
     rcases bL.1 hy with e | hy
     ·rw[e];exact h.1
     ·exact tr _ _ _ (hP z (bX _ bY)) h.1 ((mT.1 ih).1 y hy)
def jri (t:Tab w h T):(mX T w h).Pairwise λx y=>rS x.2 y.2:=by
 refine(jgs (P:=λx=>x.2.2.1<x.2.2.2) (λx y z hy h1 h2=>?_) (λx hx=>(t.li ((Oa t).1 hx)).ft) t.wk).imp λh=>jmw.1 h
 rw[jmw] at *;unfold Nx at *;omega
def kai (t:Tab w h T):(mX T w h).Nodup:=by
 have hp:=jri t;have:(mX T w h).Pairwise λx y=>x∈mX T w h/\rS x.2 y.2:=by
  rw[pQ] at hp ⊢;exact λi j hi hj hij=>⟨dU _,hp i j hi hj hij⟩
 refine this.imp λ{a b} ⟨hm,h⟩ e=>?_
 subst e;have:=(t.li ((Oa t).1 hm)).ft;unfold rS at h;omega
def je8 (t:Tab w h T):(mX T w h).Perm T:=by
 have n2:T.Nodup:=List.Pairwise.of_map _ (λa b h e=>h (by rw[e])) t.ndU;exact(qf6 (kai t) n2).2 λc=>Oa t
end
def mQ (c e:bJ):Prop:=c.1=e.1/\c.2.1=e.2.1/\c.2.2.2=e.2.2.1
instance (c e:bJ):Decidable (mQ c e):=by unfold mQ;exact inferInstance
def stepG (s:List bJ×Option bJ) (e:bJ):List bJ×Option bJ:=
 match s.2 with
 | none=>(s.1,if e.1≠0 then some e else none)
 | some c=>if e.1≠0/\mQ c e then(s.1,some (c.1,(c.2.1,(c.2.2.1,e.2.2.2)))) else(s.1++[c],if e.1≠0 then some e else none)
def eK:List bJ×Option bJ->List bJ->List bJ
 | s,[]=>s.1++s.2.toList
 | s,e::l=>eK (stepG s e) l
def jc6 {out:List bJ} {c:bJ}:∀ {l:List bJ},(∀e,l.head?=some e->¬mQ c e)->eK (out,some c) l=eK (out++[c],none) l
 | [],_=>by simp[eK]
 | e::l,h=>by
   have:=h e rfl;simp only[eK,stepG,this,and_false,cO]
def Uu:∀(l:List bJ) (out:List bJ) (cur:Option bJ),(∀e∈l,e.2.2.1<e.2.2.2)->l.Pairwise (λx y=>rS x.2 y.2)->(∀c,cur=some c->∀e∈l,rS c.2 e.2)->
  eK (out,cur) l=eK (out,cur) (l.filter λe=>decide (e.1≠0))
 | [],_,_,_,_,_=>rfl
 | e::l,out,cur,hf,hp,hc=>by
   obtain⟨hp1,hp2⟩:=mT.1 hp;have hf2:∀e∈l,e.2.2.1<e.2.2.2:=λx hx=>hf x (bX _ hx)
   have fe:=hf e bY;by_cases h0:e.1=0
   ·rw[List.filter_cons_of_neg (by simp[h0])];cases cur with
    | none=>
      have es:stepG (out,none) e=(out,none):=by simp[stepG,h0]
      rw[eK,es];exact Uu l out none hf2 hp2 (λc h=>by cases h)
    | some c=>
      have es:stepG (out,some c) e=(out++[c],none):=by simp[stepG,h0]
      rw[eK,es,Uu l _ none hf2 hp2 (λc h=>by cases h)];refine(jc6 λv hv=>?_).symm;have hm:=List.mem_of_mem_head? (by rw[hv];rfl:v∈(l.filter λe=>decide (e.1≠0)).head?);have hm:=(oN.1 hm).1;rintro ⟨g1,g2,g3⟩;have n1:=hc c rfl e bY;have n2:=hp1 v hm;have e1:c.2.1.1=v.2.1.1:=by rw[g2]
      have e2:c.2.1.2=v.2.1.2:=by rw[g2]
      unfold rS at n1 n2;omega
   ·rw[List.filter_cons_of_pos (by simp[h0])];simp only[eK];rcases hs:stepG (out,cur) e with⟨o2,c2⟩
    refine Uu l o2 c2 hf2 hp2 λd hd v hv=>?_
    have n2:=hp1 v hv;have:d.2.1=e.2.1/\d.2.2.2=e.2.2.2:=by
     unfold stepG at hs;cases cur with
     | none=>
       simp only[ne_eq,h0,sS,bR,aM] at hs;rw[hd] at hs;cases hs.2;exact⟨rfl,rfl⟩
     | some c=>
       simp only[ne_eq,h0,sS,bR,true_and] at hs;split at hs
       ·rename_i g;simp only[aM] at hs;rw[hd] at hs;cases hs.2;exact⟨g.2.1,rfl⟩
       ·simp only[aM] at hs;rw[hd] at hs;cases hs.2;exact⟨rfl,rfl⟩
    have e1:d.2.1.1=e.2.1.1:=by rw[this.1]
    have e2:d.2.1.2=e.2.1.2:=by rw[this.1]
    unfold rS at n2 ⊢;omega
def kW (K:bW->Int) (l:List aW):List bJ:=l.map λx=>(K x.1,x.2)
def fD (T:List aW) (w h:Nat) (K:bW->Int):List bJ:=eK ([],none) (kW K (mX T w h))
def j6m {a:wP} (ha:a.2.2.length<=1000000) (u:bW):Uq fuel (a,u)=some (bP a.2.2 u):=by
 apply Ret.eq;unfold Uq;refine gZ (λi:Int=>0<=i/\i<=a.2.2.length/\∀c∈a.2.2.take i.toNat,nE u c=false) (λi=>a.2.2.length-i.toNat) ?_ fuel 0 ⟨by omega,by omega,by simp⟩ (by simp only[fuel];omega);rintro i' rec ⟨i0,i1,hno⟩ hrec;obtain⟨i,rfl⟩:∃i:Nat,i'=(i:Int):=⟨i'.toNat,by omega⟩
 rw[fF] at hno;refine aS (λhlt=>?_) λhge=>?_
 ·have hlt:(i:Int)< (a.2.2.length:Int):=hlt;have hi:i<a.2.2.length:=by omega
  have hin:=cZ i0 hlt;rw[lH hi];have nx:nE u a.2.2[i]=false->Ret (aA (aC ((i:Int)+1)) (rec ((i:Int)+1))) λx=>x=bP a.2.2 u:=λhu=>by
   refine cI (hrec _ ⟨by omega,by omega,?_⟩ (by omega));rw[show((i:Int)+1).toNat=i+1 by omega,Nu _ _ hi];intro c hc;rcases aZ.1 hc with hc | hc
   ·exact hno c hc
   ·rw[bF.1 hc];exact hu
  refine bB hin (aS (λg1=>bB hin (aS (λg2=>bB hin (cB ?_)) λg2=>nx (by simp only[nE];simp[g2]))) λg1=>nx (by simp only[nE];simp[g1]));unfold bP;rw[jjq hi hno (by simp only[nE];simp[g1,g2])]
 ·refine cB ?_;have hge:¬(i:Int)< (a.2.2.length:Int):=hge;rw[iU (by omega)] at hno;unfold bP;rw[Bj.2 λc hc hq=>by rw[hno c hc] at hq;cases hq]
def enc:Option bJ->Int×(Int×(Int×(Int×Int)))
 | none=>(0,(0,(0,(0,0))))
 | some c=>(c.1,(c.2.1.1,(c.2.1.2,(c.2.2.1,c.2.2.2))))
def jdr {out:List bJ} {c e:bJ} (h0:e.1≠0) (hg:mQ c e):stepG (out,some c) e=(out,some (c.1,(c.2.1,(c.2.2.1,e.2.2.2)))):=by simp only[stepG];rw[aK ⟨h0,hg⟩]
def jp9 {out:List bJ} {c e:bJ} (h0:e.1≠0) (hg:¬mQ c e):stepG (out,some c) e=(out++[c],some e):=by simp only[stepG];rw[aD λh=>hg h.2,aK h0]
def j75 {out:List bJ} {c e:bJ} (h0:e.1=0):stepG (out,some c) e=(out++[c],none):=by simp only[stepG];rw[aD λh=>h.1 h0,aD λh=>h h0]
def Vk {out:List bJ} {e:bJ} (h0:e.1≠0):stepG (out,none) e=(out,some e):=by simp only[stepG];rw[aK h0]
def j74 {out:List bJ} {e:bJ} (h0:e.1=0):stepG (out,none) e=(out,none):=by simp only[stepG];rw[aD λh=>h h0]
def jcv {n i:Nat} (h:i<n):(List.range n).drop i=i::(List.range n).drop (i+1):=by
 rw[wY (by simpa using h),Tb]
section
variable {w h:Nat} {T:List aW}
def jow (t:Tab w h T) (hw:1<=w/\w<=6) (hh:1<=h/\h<=6) {cr:List bQ} (hcr:cr.length<=1000000):
  Gh fuel ((w:Int),((h:Int),cr))=some (fD T w h (bP cr)):=by
 have hlen:=t.len hw.2 hh.2;have hwl:(mX T w h).length<=1000:=by rw[(je8 t).length_eq];exact hlen
 apply Ret.eq;unfold Gh;rw[t.all,aO];have hX0:eK ([],none) (kW (bP cr) (((List.range 4).drop 0).flatMap (xR T w h)))=fD T w h (bP cr):=by
  rw[fZ,<-je7];rfl
 have hL0:(((List.range 4).drop 0).flatMap (xR T w h)).length<=1000:=by
  rw[fZ,<-je7];exact hwl
 generalize fD T w h (bP cr)=X at hX0 ⊢;generalize hK:bP cr=K at hX0;refine gZ (λs:List bJ×Int=>∃i:Nat,s.2=(i:Int)+1/\i<=4/\eK (s.1,none) (kW K (((List.range 4).drop i).flatMap (xR T w h)))=X/\s.1.length+ (((List.range 4).drop i).flatMap (xR T w h)).length<=1000) (λs=>5-s.2.toNat) ?_ fuel ([],1) ⟨0,rfl,by omega,hX0,by simpa using hL0⟩ (by simp only[fuel];omega);clear hX0 hL0;rintro ⟨out,k'⟩ rec ⟨i,hk,hi4,hX,hL⟩ hrec;simp only at hk hX hL;subst hk;refine aS (λhk4=>?_) λhk4=>?_
 rotate_left
 ·have:i=4:=by simp only at hk4;omega
  subst this;refine cB ?_;rw[<-hX,show(List.range 4).drop 4=[] from rfl];simp[eK,kW]
 have hi:i<4:=by simp only at hk4;omega
 rw[jcv hi,lM] at hX hL;generalize hRk:((List.range 4).drop (i+1)).flatMap (xR T w h)=Rk at hX hL;have hRkl:∀e∈Rk,e.2.1.1≠(i:Int)+1:=by
  intro e he;rw[<-hRk] at he;obtain⟨k,hk,he⟩:=yH.1 he;have:=(jld he).2;obtain⟨q,hq,e2⟩:=mS hk;rw[Tn,Tb] at e2;omega
 refine cI ?_;refine gZ (λs:List bJ×Int=>∃j:Nat,s.2=(j:Int)-(w:Int)/\j<=w+ (w+h)+1/\eK (s.1,none) (kW K (((List.range (w+ (w+h)+1)).drop j).flatMap (Am T w h i)++Rk))=X/\s.1.length+ (((List.range (w+ (w+h)+1)).drop j).flatMap (Am T w h i)++Rk).length<=1000) (λs=>w+ (w+h)+1-(s.2+w).toNat) ?_ fuel (out, -(w:Int)) ⟨0,by simp,by omega,by rw[fZ];exact hX,by rw[fZ];exact hL⟩ (by simp only[fuel];omega);clear hX hL;rintro ⟨out,c'⟩ rec3 ⟨j,hc,hjm,hX,hL⟩ hrec3;simp only at hc hX hL;subst hc;have hz1:aC ((w:Int)+ (h:Int))=true:=cM (by omega) (by omega);have hz2:aC (2* ((w:Int)+ (h:Int)))=true:=cM (by omega) (by omega);refine bB hz1 (aS (λhjc=>?_) λhjc=>?_)
 rotate_left
 ·have:j=w+ (w+h)+1:=by simp only at hjc;omega
  subst this;have ed:(List.range (w+ (w+h)+1)).drop (w+ (w+h)+1)=[]:=sP (by simp);rw[ed,List.flatMap_nil,dZ] at hX hL;have e1:IntKind.u8.wrap ((i:Int)+1+1)=((i+1:Nat):Int)+1:=by
   have:i=0\/i=1\/i=2\/i=3:=by omega
   rcases this with rfl | rfl | rfl | rfl<;>rfl
  simp only;rw[e1];exact hrec _ ⟨i+1,rfl,by omega,by rw[hRk];exact hX,by rw[hRk];exact hL⟩ (by simp only;omega)
 have hj:j<w+ (w+h)+1:=by simp only at hjc;omega
 rw[jcv hj,lM,cD] at hX hL;generalize hRc:((List.range (w+ (w+h)+1)).drop (j+1)).flatMap (Am T w h i)++Rk=Rc at hX hL;have hRcl:∀e∈Rc,e.2.1≠((i:Int)+1,(j:Int)-(w:Int)):=by
  intro e he e0;rw[<-hRc] at he;rcases aZ.1 he with he | he
  ·obtain⟨k,hk,he⟩:=yH.1 he;have:=(jl3 he).2;obtain⟨q,hq,e2⟩:=mS hk;rw[Tn,Tb] at e2;rw[e0] at this;have:=congrArg Prod.snd this;simp only at this;omega
  ·exact hRkl e he (by rw[e0])
 have hl:Am T w h i j=(List.range (2* (w+h)+1)).filterMap (uP T ((i:Int)+1,(j:Int)-(w:Int))):=rfl;rw[hl] at hX hL;generalize hN:2* (w+h)+1=N at hX hL;generalize hline:((i:Int)+1,(j:Int)-(w:Int))=l at hX hL hRcl;refine gZ (λs:List bJ×(Int×(Int×(Int×(Int×(Int×Int)))))=>∃(p:Nat) (cur:Option bJ),s.2.1=(p:Int)/\p<=N/\s.2.2=enc cur/\(∀c,cur=some c->c.1≠0/\c.2.1=l)/\eK (s.1,cur) (kW K (((List.range N).drop p).filterMap (uP T l)++Rc))=X/\s.1.length+cur.toList.length+ (((List.range N).drop p).filterMap (uP T l)++Rc).length<=1000) (λs=>N-s.2.1.toNat) ?_ fuel _ ⟨0,none,rfl,by omega,rfl,(λc h=>by cases h),by rw[fZ];exact hX,by rw[fZ];simpa using hL⟩ (by simp only[fuel];omega);clear hX hL;rintro ⟨out,p',x⟩ rec4 ⟨p,cur,hp,hpN,hx,hcur,hX,hL⟩ hrec4;simp only at hp hx hX hL;subst hp hx;refine bB hz1 (bB hz2 (aS (λhat=>?_) λhat=>?_))
 rotate_left
 ·have:p=N:=by simp only at hat;omega
  subst this;have ed:(List.range p).drop p=[]:=sP (by simp);rw[ed,List.filterMap_nil,dZ] at hX hL;have nx:∀out2:List bJ,eK (out2,none) (kW K Rc)=X->out2.length+Rc.length<=1000->Ret (aA (aC ((j:Int)-(w:Int)+1)) (rec3 (out2,(j:Int)-(w:Int)+1))) λx=>x=X:=λout2 h1 h2=>by
   refine cI (hrec3 _ ⟨j+1,by simp only;omega,by omega,?_,?_⟩ (by simp only;omega))
   ·rw[hRc];exact h1
   ·rw[hRc];exact h2
  cases cur with
  | none=>exact aS (λg=>absurd rfl g) λ_=>nx _ hX (by simpa using hL)
  | some c=>
    have hc:=hcur c rfl;have hfl:eK (out++[c],none) (kW K Rc)=X:=by
     rw[<-hX];refine(jc6 λe he hg=>?_).symm;have hm:=List.mem_of_mem_head? (by rw[he];rfl:e∈(kW K Rc).head?);obtain⟨y,hy,rfl⟩:=bU.1 hm;exact hRcl y hy (by rw[<-hc.2];exact hg.2.1.symm)
    refine aS (λ_=>bB (oF ?_) (nx _ hfl ?_)) λg=>absurd hc.1 g
    ·simp only[Be,kC] at hL;simp only;omega
    ·simp only[Be,kC,dS] at hL ⊢;omega
 have hp:p<N:=by simp only at hat;omega
 rw[jcv hp,Sz] at hX hL;generalize hR:((List.range N).drop (p+1)).filterMap (uP T l)=R at hX hL;rw[jfj (by omega),aO]
 have next:∀(out2:List bJ) (cur2:Option bJ),(∀c,cur2=some c->c.1≠0/\c.2.1=l)->eK (out2,cur2) (kW K (R++Rc))=X->out2.length+cur2.toList.length+ (R++Rc).length<=1000->
   Ret (aA (aC ((p:Int)+1)) (rec4 (out2,((p:Int)+1,enc cur2)))) λx=>x=X:=λout2 cur2 h1 h2 h3=>
  cI (hrec4 _ ⟨p+1,cur2,by simp,by omega,rfl,h1,by rw[hR];exact h2,by rw[hR];exact h3⟩ (by simp only;omega))
 have ea:uP T l p=gQ T l (p:Int):=rfl;rw[ea] at hX hL;cases hlk:gQ T l (p:Int) with
 | none=>
   rw[hlk] at hX hL;simp only at hX hL ⊢;exact aS (λ_=>next out cur hcur hX hL) λg=>absurd trivial g
 | some y=>
   obtain⟨hy,hyl,hyp⟩:=sJ hlk;rw[hlk] at hX hL;simp only[eW,dG] at hX hL ⊢;refine aS (λg=>absurd g (by decide)) λ_=>?_
   rw[show((y.1.1,y.1.2):bW)=y.1 from rfl,j6m (a:=((w:Int),((h:Int),cr))) hcr,aO,hK];have hX2:eK (stepG (out,cur) (K y.1,y.2)) (kW K (R++Rc))=X:=hX;have hnew:∀c:bJ,some ((K y.1,(l,((p:Int),y.2.2.2))):bJ)=some c->K y.1≠0->c.1≠0/\c.2.1=l:=λc e h0=>by cases e;exact⟨h0,rfl⟩
   have ey:((K y.1,y.2):bJ)=(K y.1,(l,((p:Int),y.2.2.2))):=by rw[<-hyl,<-hyp]
   rw[ey] at hX2;subst hline;cases cur with
   | none=>
     simp only[Tl,iT] at hL;refine aS (λhn=>?_) λhn=>?_
     ·rw[Vk hn] at hX2;refine aS (λg=>absurd g.symm hn) λ_=>aS (λg=>absurd rfl g) λ_=>aS (λ_=>?_) λg=>absurd hn g
      exact next out (some _) (λc e=>hnew c e hn) hX2 (by simp only[Be,kC];omega)
     ·have hn:K y.1=0:=by simpa using hn
      rw[j74 hn] at hX2;refine aS (λg=>absurd rfl g) λ_=>aS (λg=>absurd hn g) λ_=>?_
      exact next out none (λc e=>by cases e) hX2 (by simp only[Tl,iT];omega)
   | some c=>
     obtain⟨hc1,hc2⟩:=hcur c rfl;simp only[Be,kC] at hL;have hlk1:eP (out.length+1)=true:=oF (by omega);have hl1:(out++[c]).length=out.length+1:=by simp
     have flush1:K y.1≠0->¬mQ c (K y.1,(((i:Int)+1,(j:Int)-(w:Int)),((p:Int),y.2.2.2)))->Ret (aA (aC ((p:Int)+1)) (rec4 (out++[c],((p:Int)+1,enc (some (K y.1,(((i:Int)+1,(j:Int)-(w:Int)),((p:Int),y.2.2.2)))))))) λx=>x=X:=λhn hg=>by
      rw[jp9 hn hg] at hX2;exact next _ (some _) (λc e=>hnew c e hn) hX2 (by simp only[Be,kC];omega)
     refine aS (λhn=>?_) λhn=>?_
     ·refine aS (λg1=>?_) λg1=>?_
      ·refine aS (λg2=>?_) λg2=>?_
       ·rw[jdr hn ⟨g1,hc2,g2⟩] at hX2;exact next out (some _) (λd e=>by cases e;exact⟨hc1,hc2⟩) hX2 (by simp only[Be,kC];omega)
       ·refine aS (λ_=>bB hlk1 (aS (λ_=>?_) λg=>absurd hn g)) λg=>absurd hc1 g
        exact flush1 hn λg=>g2 g.2.2
      ·refine aS (λ_=>bB hlk1 (aS (λ_=>?_) λg=>absurd hn g)) λg=>absurd hc1 g
       exact flush1 hn λg=>g1 g.1
     ·have hn:K y.1=0:=by simpa using hn
      refine aS (λ_=>bB hlk1 (aS (λg=>absurd hn g) λ_=>?_)) λg=>absurd hc1 g
      rw[j75 hn] at hX2;exact next (out++[c]) none (λc e=>by cases e) hX2 (by simp only[Tl,iT];omega)
end
section
variable {w h:Nat} {T:List aW}
def j0n (t:Tab w h T) {x:aW} (hx:x∈T):Mm fuel (((w:Int),(h:Int)),x.1)=some ((x.2.1,x.2.2.1),x.2.2.2):=by
 have:=bS.1 t.lie x hx;unfold jbj at this;split at this
 ·rename_i r hr;rw[show((x.1.1,x.1.2):bW)=x.1 from rfl] at hr;rw[hr];simp only[aN,aH] at this;obtain⟨⟨⟨a1,a2⟩,a3⟩,a4⟩:=this;rw[show r=((r.1.1,r.1.2),r.2) from rfl,show r.1.1=x.2.1 from oP a1 a2,a3,a4]
 ·cases this
def rG (T:List aW) (c:bQ):bJ:=(c.2.2,((T.find? λx=>decide (x.1=dL c)).map (·.2)).getD ((0,0),(0,0)))
def jpc (t:Tab w h T) {c:bQ} {x:aW} (hx:x∈T) (e:x.1=dL c):rG T c=(c.2.2,x.2):=by
 unfold rG;have:T.find? (λx=>decide (x.1=dL c))=some x:=by
  cases hf:T.find? (λx=>decide (x.1=dL c)) with
  | none=>exact absurd (by simpa using e) (Bj.1 hf x hx)
  | some y=>
    have h1:=Te hf;have h2:=Tt hf;rw[t.unitInj h1 hx (by rw[e];simpa using h2)]
 rw[this];rfl
def mU (T:List aW) (w h:Nat) (K:bW->Int):List bJ:=(kW K (mX T w h)).filter λe=>decide (e.1≠0)
def jlc (t:Tab w h T) (K:bW->Int):(kW K (mX T w h)).Pairwise λx y=>rS x.2 y.2:=To.2 (jri t)
def jbc (t:Tab w h T) {K:bW->Int} {e:bJ} (he:e∈kW K (mX T w h)):∃x∈T,e=(K x.1,x.2):=by
 obtain⟨x,hx,rfl⟩:=bU.1 he;exact⟨x,(Oa t).1 hx,rfl⟩
def jdc (t:Tab w h T) (K:bW->Int):fD T w h K=eK ([],none) (mU T w h K):=
 Uu _ _ _ (λe he=>by obtain⟨x,hx,rfl⟩:=jbc t he;exact(t.li hx).ft) (jlc t K) (λc h=>by cases h)
def jpd (t:Tab w h T) (K:bW->Int):(mU T w h K).Pairwise λa b=>jW a b<0:=by
 have hp:(mU T w h K).Pairwise λx y=>rS x.2 y.2:=(jlc t K).filter _
 have:(mU T w h K).Pairwise λx y=>(x∈mU T w h K/\y∈mU T w h K)/\rS x.2 y.2:=by
  rw[pQ] at hp ⊢;exact λi j hi hj hij=>⟨⟨dU _,dU _⟩,hp i j hi hj hij⟩
 refine this.imp λ{a b} ⟨⟨ha,hb⟩,hn⟩=>?_
 obtain⟨x,hx,rfl⟩:=jbc t (oN.1 ha).1;obtain⟨y,hy,rfl⟩:=jbc t (oN.1 hb).1;have lx:=t.li hx;have ly:=t.li hy;have b1:=lx.ft;rw[Ja];simp only;rw[Ho (by have:=lx.k1;omega) (by have:=lx.k4;omega),Ho (by have:=ly.k1;omega) (by have:=ly.k4;omega)];unfold rS at hn;simp only at hn;omega
def jac {α β:Type} {f g:α->Option β}:∀ {l:List α},(∀x∈l,f x=g x)->l.filterMap f=l.filterMap g
 | [],_=>rfl
 | x::l,h=>by
   rw[Sz,Sz,h x bY,jac λy hy=>h y (bX _ hy)]
def jdb (t:Tab w h T) {cr:List bQ} (ho:OutOK T cr):(cr.map (rG T)).Perm (mU T w h (bP cr)):=by
 have h1:((kA T cr).map (rG T)).Perm (mU T w h (bP cr)):=by
  have e:(kA T cr).map (rG T)=(kW (bP cr) T).filter λe=>decide (e.1≠0):=by
   unfold kA kW;rw[List.map_filterMap,List.filter_map,<-List.filterMap_eq_map,<-List.filterMap_eq_filter,List.filterMap_filterMap];refine jac λx hx=>?_
   by_cases h0:bP cr x.1=0
   ·simp[h0,Option.guard]
   ·simp only[h0,cO,eX,Option.guard,qf1,ne_eq,sS,bA,bR,aO];rw[jpc t hx rfl];try rfl
  rw[e];exact((je8 t).symm.map _).filter _
 exact((Qn t ho).map _).trans h1
def jp1 (t:Tab w h T) {cr:List bQ} (ho:OutOK T cr):sortC jW (cr.map (rG T))=mU T w h (bP cr):=by
 have hs:=jpd t (bP cr);have hp:=(sZ jW (cr.map (rG T))).trans (jdb t ho);refine Mt jW (λx hx y hy h1 h2=>?_) (Vi jW jd0 _) (hs.imp λ{a b} h c=>by rw[Ja] at *;omega) hp;have hx:=hp.subset hx;have hy:=hp.subset hy;obtain⟨i,hi,rfl⟩:=mS hx;obtain⟨j,hj,rfl⟩:=mS hy;rw[pQ] at hs;rcases Bf i j with g | g | g
 ·exact absurd (hs i j hi hj g) h1
 ·subst g;rfl
 ·exact absurd (hs j i hj hi g) h2
def j4l (t:Tab w h T) {cr:List bQ} (ho:OutOK T cr):vI (cr.map (rG T))=true:=by
 unfold vI;rw[jp1 t ho];exact jcu (jpd t _)
def j7c {K:bW->Int} {e:bJ} (he:e∈mU T w h K):e.1≠0:=by
 have:=(oN.1 he).2;simpa using this
def Ji {α:Type} (l:List α) (n:Nat):(l.drop n).take (l.length-n)=l.drop n:=iU (by simp)
def jup (t:Tab w h T) (hw:1<=w/\w<=6) (hh:1<=h/\h<=6) {cr:List bQ} (hck:Kz fuel ((w:Int),((h:Int),cr))=some 0) (ho:OutOK T cr):
  yT fuel ((w:Int),((h:Int),cr))=some (fD T w h (bP cr),0):=by
 have hlen:=ho.len t hw.2 hh.2;apply Ret.eq;unfold yT;rw[show(((w:Int),((h:Int),cr)).1,(((w:Int),((h:Int),cr)).2.1,((w:Int),((h:Int),cr)).2.2))=((w:Int),((h:Int),cr)) from rfl,hck,aO];refine aS (λg=>absurd rfl g) λ_=>?_
 refine bB (by simp only[aN,aH];omega) ?_;refine gZ (λs:List bJ×Int=>∃n:Nat,s.2=(n:Int)/\n<=cr.length/\s.1=(cr.take n).map (rG T)) (λs=>cr.length-s.2.toNat) ?_ fuel ([],0) ⟨0,rfl,by omega,by simp⟩ (by simp only[fuel];omega);rintro ⟨all,n'⟩ rec ⟨n,hn,hnl,hall⟩ hrec;simp only at hn hall;subst hn hall;refine aS (λhlt=>?_) λhge=>?_
 ·have hlt:(n:Int)< (cr.length:Int):=hlt;have hi:n<cr.length:=by omega
  have hin:aI (n:Int) cr.length=true:=cZ (by omega) hlt;refine bB hin ?_;simp only;rw[lH hi];obtain⟨x,hx,ex⟩:=bU.1 (ho.sub cr[n] (dU hi));rw[show((cr[n].1,cr[n].2.1):bW)=x.1 from ex.symm,j0n t hx,aO];refine bB (oF (by simp only[dM,yG];omega)) (cI (hrec _ ⟨n+1,by simp,hi,?_⟩ (by simp only;omega)));simp only;rw[Nu _ _ hi,fY,List.map_singleton,jpc t hx ex]
 have hge:¬(n:Int)< (cr.length:Int):=hge;have:n=cr.length:=by omega
 subst this;have eS:Gs fuel (((cr.take cr.length).map (rG T),none),((),()))=some ((),((mU T w h (bP cr),none),((),()))):=by
  unfold Gs;have e1:(Nat.ble (List.length (α:=bJ) ((cr.take cr.length).map (rG T))) 1000000&&vI ((cr.take cr.length).map (rG T)))=true:=by
   rw[mC,j4l t ho,nM,Nat.ble_eq,dM];omega
  have e2:=e1;simp only at e1 ⊢;rw[e1,mC,jp1 t ho];rfl
 rw[eS,aO];have hX0:=jdc t (bP cr);have hL0:(mU T w h (bP cr)).length<=1000:=by rw[<-(jdb t ho).length_eq,dM];exact hlen
 have hN0:∀e∈mU T w h (bP cr),e.1≠0:=λe he=>j7c he
 simp only;generalize fD T w h (bP cr)=X at hX0 ⊢;generalize mU T w h (bP cr)=F at hX0 hL0 hN0 ⊢;refine gZ (λs:List bJ×List bJ=>(∀e∈s.1,e.1≠0)/\eK (s.2,none) s.1=X/\s.2.length+s.1.length<=1000) (λs=>s.1.length) ?_ fuel (F,[]) ⟨hN0,hX0.symm,by simpa using hL0⟩ (by simp only[fuel];omega);clear hX0 hL0 hN0 eS hrec rec;rintro ⟨all,out⟩ rec5 ⟨hN,hX,hL⟩ hrec5;simp only at hN hX hL;cases all with
 | nil=>
   refine aS (λg=>absurd g (by simp)) λ_=>?_
   simp only[eK,Tl,jQ] at hX;subst hX;have hb:cT 0 (out.length:Int) out.length=true:=by unfold cT;simp
   refine bB (by simp only[aN,aH];exact⟨⟨hb,by omega⟩,by omega⟩) (bB ?_ (cB ?_))
   ·simp[mN]
   ·simp
 | cons x r=>
   have hb:∀n:Nat,n+1<=(x::r).length->cT ((n:Int)+1) ((x::r).length:Int) (x::r).length=true:=λn hn=>by
    unfold cT;simp only[aN,aH];omega
   refine aS (λ_=>?_) λg=>absurd (by simp only[dG];omega) g
   refine bB (cZ (by omega) (by simp only[dG];omega)) (bB (hb 0 (by simp)) ?_);generalize hA:x::r=A at hb hrec5 hN hX hL;have hAl:1<=A.length:=by rw[<-hA];simp
   refine gZ (λs:Int×(Int×(Int×(Int×(Int×(Int×Int)))))=>∃(n:Nat) (y:bJ),s=((n:Int)+1,((n:Int),enc (some y)))/\n+1<=A.length/\y.1≠0/\eK (out,some y) (A.drop (n+1))=X) (λs=>A.length-s.1.toNat) ?_ fuel _ ⟨0,x,by rw[<-hA];rfl,hAl,hN x (by rw[<-hA];simp),?_⟩ (by simp only[fuel];omega)
   rotate_left
   ·rw[<-hA] at hX ⊢;rw[<-hX];have:=hN x (by rw[<-hA];simp);rw[eK,Vk this];rfl
   rintro s rec6 ⟨n,y,rfl,hn,hy,hXn⟩ hrec6;have ex:eK (out++[y],none) (A.drop (n+1))=X->Ret (aA (eP (out.length+1)) (aA (cT ((n:Int)+1) (A.length:Int) A.length) (rec5 (((A.drop ((n:Int)+1).toNat).take (A.length-((n:Int)+1).toNat)),(out++[y]))))) λx=>x=(X,0):=λhx=>by
    refine Xn (bB (hb n hn) (hrec5 _ ⟨?_,?_,?_⟩ ?_))
    ·intro e he;simp only[Ji] at he;exact hN e (Lh he)
    ·simp only[Ji];rw[show((n:Int)+1).toNat=n+1 by omega];exact hx
    ·simp only[Ji,dS,kC,tZ];omega
    ·simp only[Ji,tZ];omega
   have hd1:(A.drop 1).take (A.length-1)=A.drop 1:=Ji A 1;have hdl:((A.drop 1).take (A.length-1)).length=A.length-1:=by rw[hd1,tZ]
   refine aS (λhlt=>?_) λhge=>?_
   ·have hlt:(n:Int)< (((A.drop 1).take (A.length-1)).length:Int):=hlt;have hn2:n+1<A.length:=by omega
    refine bB (cZ (Int.natCast_nonneg n) hlt) ?_;have hg:((A.drop 1).take (A.length-1)).getD ((n:Int).toNat) (0,((0,0),(0,0)))=A[n+1]:=by
     rw[lH (by omega)];simp only[hd1,Tn]
     congr 1
     omega
    have hd:=wY hn2;have fl:¬mQ y A[n+1]->eK (out++[y],none) (A.drop (n+1))=X:=λhg=>by
     rw[<-hXn];exact(jc6 λe he=>by rw[hd] at he;cases he;exact hg).symm
    rw[hd] at hXn;simp only;rw[hg];generalize A[n+1]=z at hXn hg fl ⊢;refine aS (λg=>ex (fl λh=>g h.1.symm)) λg1=>?_
    refine iI (λg=>ex (fl λh=>?_)) λg2=>?_
    ·have e1:z.2.1.1=y.2.1.1:=by rw[h.2.1]
     have e2:z.2.1.2=y.2.1.2:=by rw[h.2.1]
     simp[enc,e1,e2] at g
    refine aS (λg=>ex (fl λh=>g h.2.2.symm)) λg3=>?_
    have g1:z.1=y.1:=tY.1 g1;have g3:z.2.2.1=y.2.2.2:=tY.1 g3;have g2:z.2.1.1=y.2.1.1/\z.2.1.2=y.2.1.2:=by
     by_cases u1:z.2.1.1=y.2.1.1<;>by_cases u2:z.2.1.2=y.2.1.2<;>simp[enc,u1,u2] at g2 ⊢
    have hgo:mQ y z:=⟨g1.symm,oP g2.1.symm g2.2.symm,g3.symm⟩
    have hz:z.1≠0:=by rw[g1];exact hy
    rw[eK,jdr hz hgo] at hXn;exact cI (cI (hrec6 _ ⟨n+1,(y.1,(y.2.1,(y.2.2.1,z.2.2.2))),by simp[enc],hn2,hy,hXn⟩ (by simp only;omega)))
   ·have hge:¬(n:Int)< (((A.drop 1).take (A.length-1)).length:Int):=hge;refine ex ?_;rw[<-hXn];have:A.drop (n+1)=[]:=sP (by omega);rw[this];simp[eK]
end
end X
end Go.Vm
namespace Go.Vm
namespace X
open W Go.RowKit Go.Proofs.Un
section
variable {w h:Nat} {T:List aW}
def j06:In.sheets_Neighbour=sheets_Neighbour:=rfl
def jxn:In.sheets_Count=sheets_Count:=rfl
def jlt:∀(l acc:List bW),acc.length+l.length<=1000->
  lK (fun(x2:((List (Int×Int))×Unit))=>aA (cT 0 ((x2.1.length:Nat):Int) x2.1.length&&decide (((x2.1.length:Nat):Int)<=((x2.1.length:Nat):Int))&&decide (((x2.1.length:Nat):Int)<=((x2.1.length:Nat):Int))) (aA ((Nat.beq 0 0)&&(mN (some x2.1.length) (x2.1.take x2.1.length).length)) (some ((x2.1.take x2.1.length),(0:Int))))) (λy2 rec2 x2=>aA (eP (x2.1.length+1)) (rec2 ((x2.1++[(y2.1,y2.2)]),()))) l (acc,())=some (acc++l,0)
 | [],acc,_=>by
   simp[lK,aA,cT,mN]
 | y::l,acc,h=>by
   simp only[dG] at h;simp only[lK];rw[oF (by omega),jlt l (acc++[(y.1,y.2)]) (by simp only[dS,kC];omega)];simp[aA]
def jub (hw:1<=w/\w<=6) (hh:1<=h/\h<=6):sheets_Count fuel ((w:Int),(h:Int))=some ((4*w*h:Nat):Int):=by
 have hwh:w*h<=6*6:=pU hw.2 hh.2;have e:4* (w:Int)* (h:Int)=((4*w*h:Nat):Int):=by simp
 have e2:4*w*h=4* (w*h):=Lo _ _ _;unfold sheets_Count;simp only;rw[Bw hw hh,aO];simp only[ne_eq,rA,bM,aF];rw[e,cM (by omega) (by omega),cM (by omega) (by omega)];rfl
def jrb (t:Tab w h T) (hw:1<=w/\w<=6) (hh:1<=h/\h<=6) {u:bW}:u∈T.map (·.1)↔∃i,i<12*w*h/\mK w h i=true/\u=(((i / 3:Nat):Int),((i%3:Nat):Int)):=by
 have hwh:w*h<=6*6:=pU hw.2 hh.2;have e2:12*w*h=12* (w*h):=Lo _ _ _;have e3:4*w*h=4* (w*h):=Lo _ _ _;have hu:=t.us;unfold Ve at hu;simp only at hu;rw[Bw hw hh,aO] at hu;simp only[ne_eq,rA,bM,aF] at hu;cases hr:Hl (((w:Int),(h:Int)),()) with
 | none=>rw[hr] at hu;cases hu
 | some L=>
   have hL:L=(tH w h (12*w*h)).map fun(i:Nat)=>(((i / 3:Nat):Int),((i%3:Nat):Int)):=by
    unfold Hl at hr;rw[jxn] at hr;simp only at hr;rw[jub hw hh] at hr;simp only[fF] at hr;rw[show 3* (4*w*h)=12*w*h by omega] at hr;cases hk:Sn (w:Int) (h:Int) ((4*w*h:Nat):Int) with
    | true=>rw[hk] at hr;exact(kF hr).symm
    | false=>rw[hk] at hr;cases hr
   have hLl:L.length<=1000:=by
    rw[hL,dM];have:=List.length_filter_le (mK (w:Int) (h:Int)) (List.range (12*w*h));unfold tH;rw[List.length_range] at this;omega
   rw[hr,aO,jlt L [] (by simpa using hLl)] at hu;have hT:T.map (·.1)=L:=by simpa using hu.symm
   rw[hT,hL];unfold tH;simp only[bU,oN,jI];constructor
   ·rintro ⟨i,⟨h1,h2⟩,rfl⟩;exact⟨i,h1,h2,rfl⟩
   ·rintro ⟨i,h1,h2,rfl⟩;exact⟨i,⟨h1,h2⟩,rfl⟩
def jb1 (t:Tab w h T) {i:Nat} (hi:i<12*w*h):∃n er,sheets_Neighbour fuel (((w:Int),(h:Int)),(((i / 3:Nat):Int),((i%3:Nat):Int)))=some (n,er)/\Ap w h i=some (n,er)/\(er≠0\/n≠((i / 3:Nat):Int)):=by
 have:=bS.1 t.nb i (jI.2 hi);unfold jmo at this;split at this
 ·rename_i n er hn;refine⟨n,er,?_,hn,by simpa using this⟩;rw[<-j06];exact hn
 ·cases this
def juo (t:Tab w h T) (hw:1<=w/\w<=6) (hh:1<=h/\h<=6) {u:bW} (hu:u∈T.map (·.1)):wA fuel (((w:Int),(h:Int)),u)=some (u,0):=by
 obtain⟨i,hi,hp,rfl⟩:=(jrb t hw hh).1 hu;obtain⟨n,er,h1,h2,h3⟩:=jb1 t hi;unfold mK at hp;rw[h2] at hp;simp only[aN,aH] at hp;obtain⟨rfl,hp⟩:=hp;unfold wA;simp only;rw[h1,aO];simp only[ne_eq,rA,bM,aF];rw[show min (((i / 3:Nat):Int)) n=((i / 3:Nat):Int) by omega]
def jun (t:Tab w h T) (hw:1<=w/\w<=6) (hh:1<=h/\h<=6) {u:bW} (h0:0<=u.2) (hu:u∉T.map (·.1)):∃r,wA fuel (((w:Int),(h:Int)),u)=some r/\(r.2≠0\/r.1.1≠u.1):=by
 have hwh:w*h<=6*6:=pU hw.2 hh.2;have e2:12*w*h=12* (w*h):=Lo _ _ _;have e3:4*w*h=4* (w*h):=Lo _ _ _;have e:4* (w:Int)* (h:Int)=((4*w*h:Nat):Int):=by simp
 by_cases hc:0<=u.1/\u.1< ((4*w*h:Nat):Int)
 rotate_left
 ·
  have hcell:vZ fuel (((w:Int),(h:Int)),u.1)=some ((0,(0,0)),7):=by
   unfold vZ;simp only;rw[Bw hw hh,aO];simp only[ne_eq,rA,bM,aF];by_cases g:0<=u.1
   ·have:¬u.1< ((4*w*h:Nat):Int):=λh=>hc ⟨g,h⟩
    rw[e,cM (by omega) (by omega),cM (by omega) (by omega)];simp only[aA,aB,g,bA,this,bM,yM]
   ·simp only[g,bM,aF]
  refine⟨((0,0),7),?_,.inl (by decide)⟩;unfold wA sheets_Neighbour;simp only;rw[hcell,aO];rfl
 obtain⟨hc0,hc1⟩:=hc;by_cases he:2<u.2
 ·
  obtain⟨n,er,h1,_,_⟩:=jb1 t (i:=3*u.1.toNat) (by omega);rw[show(((3*u.1.toNat / 3:Nat):Nat):Int)=u.1 by omega] at h1;unfold sheets_Neighbour at h1;simp only at h1;cases hcl:vZ fuel (((w:Int),(h:Int)),u.1) with
  | none=>rw[hcl] at h1;cases h1
  | some r1=>
    unfold wA sheets_Neighbour;simp only;rw[hcl,aO];by_cases g:r1.2=0
    ·have hcn:wW fuel ((r1.1.1,(r1.1.2.1,r1.1.2.2)),u.2)=some ((0,(0,0)),1):=by
      unfold wW;simp only[he,bA,aB];cases decide (r1.1.1 < -4096)<;>cases decide (4096<r1.1.1)<;>cases decide (r1.1.2.1 < -4096)<;>cases decide (4096<r1.1.2.1)<;>cases decide (3<r1.1.2.2)<;>rfl
     simp only[g,ne_eq,rA,bM,aF];rw[hcn,aO];exact⟨_,rfl,.inl (by decide)⟩
    ·simp only[g,ne_eq,sS,bA,aB,aO];exact⟨_,rfl,.inl g⟩
 obtain⟨n,er,h1,h2,h3⟩:=jb1 t (i:=3*u.1.toNat+u.2.toNat) (by omega);have ei:(((3*u.1.toNat+u.2.toNat) / 3:Nat):Int)=u.1:=by omega
 have ej:(((3*u.1.toNat+u.2.toNat)%3:Nat):Int)=u.2:=by omega
 rw[ei,ej] at h1;rw[ei] at h3;unfold wA;simp only;rw[h1,aO];by_cases g:er=0
 ·subst g;simp only[ne_eq,rA,bM,aF];refine⟨_,rfl,.inr ?_⟩;have hnp:¬u.1<n:=λhn=>hu ((jrb t hw hh).2 ⟨3*u.1.toNat+u.2.toNat,by omega,by unfold mK;rw[h2];simp only[bA,sV,aH];omega,oP ei.symm ej.symm⟩)
  have h3:n≠u.1:=h3.resolve_left (by simp);simp only;omega
 ·simp only[g,ne_eq,sS,bA,aB];exact⟨_,rfl,.inl g⟩
end
def vE (c:bQ):Prop:=1<=c.2.2/\c.2.2<=3
def xS (u v:bW):Prop:=u.1<v.1\/u.1=v.1/\u.2<v.2
def Cp (cr:List bQ) (n:Nat):Prop:=∀j (h:j+1<cr.length),j+1<n->xS (dL cr[j]) (dL cr[j+1])
open Classical in
noncomputable def Jb (T:List aW) (cr:List bQ):Int:=if ∀c∈cr,vE c then(if ∀c∈cr,dL c∈T.map (·.1) then(if Cp cr cr.length then 0 else 6) else 7) else 1
section
variable {w h:Nat} {T:List aW}
def jj3 {α:Type} {l:List α} {i:Nat} (hi:i<l.length) {c:α} (hc:c∈l.take (i+1)):c∈l.take i\/c=l[i]:=by
 rw[Nu _ _ hi] at hc;rcases aZ.1 hc with hc | hc
 ·exact .inl hc
 ·exact .inr (bF.1 hc)
def jua {cr:List bQ} (hl:cr.length<=1000000):∃b,Vf fuel (cr,())=some b/\(b=false↔∀c∈cr,vE c):=by
 have:∃r,Mp fuel (cr,())=some r/\(r<0↔∀c∈cr,vE c):=by
  suffices hs:Ret (Mp fuel (cr,())) λr=>(r<0↔∀c∈cr,vE c) from hs.imp λr h=>h
  unfold Mp;refine gZ (λi:Int=>0<=i/\i<=cr.length/\∀c∈cr.take i.toNat,vE c) (λi=>cr.length-i.toNat) ?_ fuel 0 ⟨by omega,by omega,by simp⟩ (by simp only[fuel];omega);rintro i' rec ⟨i0,i1,hno⟩ hrec;obtain⟨i,rfl⟩:∃i:Nat,i'=(i:Int):=⟨i'.toNat,by omega⟩
  rw[fF] at hno;refine aS (λhlt=>?_) λhge=>?_
  ·have hlt:(i:Int)< (cr.length:Int):=hlt;have hi:i<cr.length:=by omega
   refine bB (cZ i0 hlt) ?_;simp only;rw[lH hi];have bad:¬vE cr[i]->((i:Int)<0↔∀c∈cr,vE c):=λhb=>⟨λg=>absurd g (by omega),λg=>absurd (g _ (dU hi)) hb⟩
   refine aS (λg1=>iI (λg2=>cB (bad ?_)) λg2=>?_) λg1=>cB (bad λg=>g1 g.1)
   ·intro g;have:=g.2;simp[this] at g2
   ·have hk:vE cr[i]:=⟨g1,by simpa using g2⟩
    refine cI (hrec _ ⟨by omega,by omega,λc hc=>?_⟩ (by omega));rw[show((i:Int)+1).toNat=i+1 by omega] at hc;rcases jj3 hi hc with hc | rfl
    ·exact hno c hc
    ·exact hk
  ·have hge:¬(i:Int)< (cr.length:Int):=hge;rw[iU (by omega)] at hno;exact cB ⟨λ_=>hno,λ_=>by decide⟩
 obtain⟨r,hr,hi⟩:=this;refine⟨decide (0<=r),?_,?_⟩
 ·unfold Vf;rw[hr,aO]
 ·rw[eH,<-hi];omega
def Km {u:bW} (t:Tab w h T) (hw:1<=w/\w<=6) (hh:1<=h/\h<=6) (hu:u∈T.map (·.1)):0<=u.1/\u.1<=1000/\0<=u.2/\u.2<=2:=by
 obtain⟨x,hx,rfl⟩:=bU.1 hu;have li:=t.li hx;have h1:=li.u0;have h2:=li.u1;have h3:=li.e0;have h4:=li.e2
 have:w*h<=6*6:=pU hw.2 hh.2;have e:(4* (w:Int)*h)=4* ((w*h:Nat):Int):=by rw[Lk,Uc]
 omega
def jvf {cr:List bQ} {i:Nat} (h:Cp cr (i+1)) (hi:i+1<cr.length) (hl:xS (dL cr[i]) (dL cr[i+1])):Cp cr (i+2):=λj hj hjn=>by
 by_cases e:j=i
 ·subst e;exact hl
 ·exact h j hj (by omega)
def jt9 (t:Tab w h T) (hw:1<=w/\w<=6) (hh:1<=h/\h<=6) {cr:List bQ} (hl:cr.length<=1000000) (hu:∀c∈cr,0<=c.2.1):Kz fuel ((w:Int),((h:Int),cr))=some (Jb T cr):=by
 obtain⟨b,hb,hb2⟩:=jua hl;apply Ret.eq;unfold Kz;simp only;rw[Bw hw hh,aO,hb,aO];refine aS (λg=>absurd rfl g) λ_=>iI (λhbt=>cB ?_) λhbf=>?_
 ·unfold Jb;rw[aD λh=>by rw[hb2.2 h] at hbt;cases hbt]
 have hk:=hb2.1 hbf;unfold Jb;rw[aK hk];refine gZ (λi:Int=>0<=i/\i<=cr.length/\∀c∈cr.take i.toNat,dL c∈T.map (·.1)) (λi=>cr.length-i.toNat) ?_ fuel 0 ⟨by omega,by omega,by simp⟩ (by simp only[fuel];omega);rintro i' rec ⟨i0,i1,hno⟩ hrec;obtain⟨i,rfl⟩:∃i:Nat,i'=(i:Int):=⟨i'.toNat,by omega⟩
 rw[fF] at hno;refine aS (λhlt=>?_) λhge=>?_
 ·have hi:i<cr.length:=by omega
  refine bB (cZ i0 hlt) ?_;rw[lH hi,show((cr[i].1,cr[i].2.1):bW)=dL cr[i] from rfl];by_cases hm:dL cr[i]∈T.map (·.1)
  ·rw[juo t hw hh hm,aO];refine aS (λg=>absurd rfl g) λ_=>iI (λg=>by simp[dL] at g) λ_=>?_
   refine cI (hrec _ ⟨by omega,by omega,λc hc=>?_⟩ (by omega));rw[show((i:Int)+1).toNat=i+1 by omega] at hc;rcases jj3 hi hc with hc | rfl
   ·exact hno c hc
   ·exact hm
  ·obtain⟨r,hr,hr2⟩:=jun t hw hh (hu _ (dU hi)) hm;rw[hr,aO,aD λh=>hm (h _ (dU hi))];refine aS (λ_=>cB rfl) λg=>?_
   have hr3:=hr2.resolve_left g;exact iI (λ_=>cB rfl) λg2=>by simp[dL] at g2 hr3;exact absurd g2.1 hr3
 rw[iU (by omega)] at hno;rw[aK hno];clear hrec i1 hge;refine gZ (λi:Int=>∃n:Nat,i=(n:Int)+1/\(n+1<=cr.length\/n=0)/\Cp cr (n+1)) (λi=>cr.length+1-i.toNat) ?_ fuel 1 ⟨0,rfl,.inr rfl,λj hj hjn=>by omega⟩ (by simp only[fuel];omega);rintro i' rec ⟨n,rfl,hn,hasc⟩ hrec;refine aS (λhlt=>?_) λhge=>?_
 ·have hi:n+1<cr.length:=by omega
  have e1:((n:Int)+1-1).toNat=n:=by omega
  refine cI (kN (bB (cZ (by omega) hlt) ?_));have g1:cr.getD ((n:Int)+1-1).toNat (0,(0,0))=cr[n]:=by rw[e1,<-lH (d:=(0,(0,0))) (show n<cr.length by omega)];rw[fF]
  have g2:cr.getD ((n:Int)+1).toNat (0,(0,0))=cr[n+1]:=by rw[<-lH (d:=(0,(0,0))) hi];rfl
  rw[g1,g2];have m1:=Km t hw hh (hno _ (dU (show n<cr.length by omega)));have m2:=Km t hw hh (hno _ (dU hi));unfold dL at m1 m2;simp only at m1 m2;have ho:∃r,Ss fuel ((cr[n].1,cr[n].2.1),(cr[n+1].1,cr[n+1].2.1))=some r/\(0<=r↔¬xS (dL cr[n]) (dL cr[n+1])):=by
   unfold Ss xS dL;simp only;by_cases e:cr[n].1=cr[n+1].1
   ·rw[show(decide (cr[n].1≠cr[n+1].1))=false by simp[e],aF,cM (by omega) (by omega),cM (by omega) (by omega),cM (by omega) (by omega)];refine⟨_,rfl,?_⟩;omega
   ·rw[show(decide (cr[n].1≠cr[n+1].1))=true by simp[e],aB,cM (by omega) (by omega)];refine⟨_,rfl,?_⟩;omega
  obtain⟨r,hr,hr2⟩:=ho;rw[hr,aO];refine aS (λg=>cB ?_) λg=>?_
  ·rw[aD (show ¬Cp cr cr.length from λh=>hr2.1 g (h n hi hi))]
  ·have hlt2:xS (dL cr[n]) (dL cr[n+1]):=sO λhc=>g (hr2.2 hc)
   exact cI (hrec _ ⟨n+1,by simp,by omega,jvf hasc hi hlt2⟩ (by omega))
 ·refine cB ?_;rw[aK (show Cp cr cr.length from λj hj hjn=>hasc j hj (by omega))]
def j6q (hw:1<=w/\w<=6) (hh:1<=h/\h<=6):mE fuel ((w:Int),(h:Int))=some 1:=by
 have hwh:w*h<=6*6:=pU hw.2 hh.2;have e:(w:Int)* (h:Int)=((w*h:Nat):Int):=by simp
 unfold mE;simp only;rw[e];simp only[show ¬((w:Int)<1) by omega,show ¬((h:Int)<1) by omega,show ¬((256:Int)<w) by omega,show ¬((256:Int)<h) by omega,show ¬((256:Int)< ((w*h:Nat):Int)) by omega,bM,aF];rw[cM (by omega) (by omega)];rfl
end
def xX (a b:bJ):Bool:= !decide (mQ a b)
def Jl (c e:bJ):bJ:=(c.1,(c.2.1,(c.2.2.1,e.2.2.2)))
def pE:bJ->List bJ->List bJ
 | c,[]=>[c]
 | c,e::l=>if mQ c e then pE (Jl c e) l else c::pE e l
def Uv:∀(l:List bJ) (out:List bJ) (c:bJ),(∀e∈l,e.1≠0)->eK (out,some c) l=out++pE c l
 | [],out,c,_=>rfl
 | e::l,out,c,h=>by
   have he:=h e bY;have hl:∀e∈l,e.1≠0:=λx hx=>h x (bX _ hx)
   simp only[pE];by_cases g:mQ c e
   ·rw[eK,jdr he g,aK g];exact Uv l out (Jl c e) hl
   ·rw[eK,jp9 he g,aD g,Uv l _ e hl];simp
def jj8:∀(l:List bJ) (c:bJ),∃d r,pE c l=d::r/\d.1=c.1/\d.2.1=c.2.1/\d.2.2.1=c.2.2.1
 | [],c=>⟨c,[],rfl,rfl,rfl,rfl⟩
 | e::l,c=>by
   simp only[pE];by_cases g:mQ c e
   ·rw[aK g];obtain⟨d,r,h1,h2,h3,h4⟩:=jj8 l (Jl c e);exact⟨d,r,h1,h2,h3,h4⟩
   ·rw[aD g];exact⟨c,_,rfl,rfl,rfl,rfl⟩
def jaj:∀(l:List bJ) (c:bJ),qF xX (pE c l)=true
 | [],c=>rfl
 | e::l,c=>by
   simp only[pE];by_cases g:mQ c e
   ·rw[aK g];exact jaj l _
   ·rw[aD g];obtain⟨d,r,h1,h2,h3,h4⟩:=jj8 l e;have ih:=jaj l e;rw[h1] at ih ⊢;have:xX c d=true:=by
     unfold xX;simp only[fB,eH];rintro ⟨g1,g2,g3⟩;exact g ⟨by rw[g1,h2],by rw[g2,h3],by rw[g3,h4]⟩
    have e:qF xX (c::d::r)=(xX c d&&qF xX (d::r)):=rfl;rw[e,this,ih];rfl
def Cy (K:bW->Int) (k:Int) (l:Int×Int):Int->List aW->Int->Prop
 | p,[],q=>p=q
 | p,x::r,q=>K x.1=k/\x.2.1=l/\x.2.2.1=p/\Cy K k l x.2.2.2 r q
def jf8 {K:bW->Int} {k:Int} {l:Int×Int}:∀ {r:List aW} {p q:Int} {x:aW},Cy K k l p r q->K x.1=k->x.2.1=l->x.2.2.1=q->Cy K k l p (r++[x]) x.2.2.2
 | [],p,q,x,h,h1,h2,h3=>by cases h;exact⟨h1,h2,h3,rfl⟩
 | y::r,p,q,x,h,h1,h2,h3=>⟨h.1,h.2.1,h.2.2.1,jf8 h.2.2.2 h1 h2 h3⟩
structure Run (K:bW->Int) (s:bJ) (r:List aW):Prop where
 ne:r≠[]
 run:Cy K s.1 s.2.1 s.2.2.1 r s.2.2.2
def jak {K:bW->Int}:∀(l:List aW) (c:bJ) (r:List aW),Run K c r->∃RS:List (bJ×List aW),pE c (kW K l)=RS.map (·.1)/\(∀s∈RS,Run K s.1 s.2)/\RS.flatMap (·.2)=r++l
 | [],c,r,h=>⟨[(c,r)],rfl,λs hs=>by rw[bF.1 hs];exact h,by simp⟩
 | x::l,c,r,h=>by
   have e:pE c (kW K (x::l))=if mQ c (K x.1,x.2) then pE (Jl c (K x.1,x.2)) (kW K l) else c::pE (K x.1,x.2) (kW K l):=rfl
   rw[e];by_cases g:mQ c (K x.1,x.2)
   ·rw[aK g];obtain⟨RS,h1,h2,h3⟩:=jak l (Jl c (K x.1,x.2)) (r++[x]) ⟨by simp,jf8 h.run g.1.symm g.2.1.symm g.2.2.symm⟩;exact⟨RS,h1,h2,by rw[h3];simp⟩
   ·rw[aD g];obtain⟨RS,h1,h2,h3⟩:=jak l (K x.1,x.2) [x] ⟨by simp,rfl,rfl,rfl,rfl⟩;refine⟨(c,r)::RS,by rw[h1];rfl,λs hs=>?_,by rw[lM,h3];simp⟩;rcases bL.1 hs with rfl | hs
    ·exact h
    ·exact h2 s hs
section
variable {w h:Nat} {T:List aW}
def fL (T:List aW) (w h:Nat) (K:bW->Int):List aW:=(mX T w h).filter λx=>decide (K x.1≠0)
def jda (K:bW->Int):mU T w h K=kW K (fL T w h K):=by
 unfold mU fL kW;rw[List.filter_map];rfl
def Qk (t:Tab w h T) {K:bW->Int} {x:aW}:x∈fL T w h K↔x∈T/\K x.1≠0:=by
 unfold fL;rw[oN,Oa t];simp
def j7e (t:Tab w h T) (K:bW->Int):∃RS:List (bJ×List aW),fD T w h K=RS.map (·.1)/\(∀s∈RS,Run K s.1 s.2)/\RS.flatMap (·.2)=fL T w h K:=by
 rw[jdc t,jda];have hN:∀x∈fL T w h K,K x.1≠0:=λx hx=>((Qk t).1 hx).2
 cases hf:fL T w h K with
 | nil=>exact⟨[],rfl,(λs hs=>by cases hs),rfl⟩
 | cons x r=>
   rw[hf] at hN;have h0:=hN x bY;have e:eK ([],none) (kW K (x::r))=pE (K x.1,x.2) (kW K r):=by
    have:eK ([],none) (kW K (x::r))=eK (stepG ([],none) (K x.1,x.2)) (kW K r):=rfl;rw[this,Vk h0,Uv]
    ·rfl
    ·intro e he;obtain⟨y,hy,rfl⟩:=bU.1 he;exact hN y (bX _ hy)
   rw[e];exact jak r _ [x] ⟨by simp,rfl,rfl,rfl,rfl⟩
def j7d (t:Tab w h T) (K:bW->Int):qF xX (fD T w h K)=true:=by
 rw[jdc t,jda];have hN:∀x∈fL T w h K,K x.1≠0:=λx hx=>((Qk t).1 hx).2
 cases hf:fL T w h K with
 | nil=>rfl
 | cons x r=>
   rw[hf] at hN;have h0:=hN x bY;have:eK ([],none) (kW K (x::r))=eK (stepG ([],none) (K x.1,x.2)) (kW K r):=rfl;rw[this,Vk h0,Uv]
   ·exact jaj _ _
   ·intro e he;obtain⟨y,hy,rfl⟩:=bU.1 he;exact hN y (bX _ hy)
def Xr (hT:TB T) (hk:KeyD T) {K:bW->Int} {k:Int} {l:Int×Int} {q:Int}:∀(r:List aW) (p:Int),(∀x∈r,x∈T)->Cy K k l p r q->kM T l q p=some (r.map (·.1))/\p<=q
 | [],p,_,h=>by
   cases h;rw[Co hT,aK rfl];exact⟨rfl,Lt _⟩
 | x::r,p,hm,⟨h1,h2,h3,h4⟩=>by
   have hx:=hm x bY;obtain⟨i1,i2⟩:=Xr hT hk r _ (λy hy=>hm y (bX _ hy)) h4;have:=hT x hx;have hl:gQ T l p=some x:=by rw[<-h2,<-h3];exact jl0 hk hx
   rw[Co hT,aD (by omega),hl];simp only;rw[aD (by omega),i1];exact⟨rfl,by omega⟩
def jf9 (t:Tab w h T) (hw:w<=6) (hh:h<=6) {K:bW->Int} {s:bJ} {r:List aW} (hr:Run K s r) (hm:∀x∈r,x∈T) (hK:∀x∈r,1<=K x.1/\K x.1<=3):gA T s=(r.map (·.1),0):=by
 have hT:=t.tb hw hh;obtain⟨h1,h2⟩:=Xr hT t.key r _ hm hr.run;cases r with
 | nil=>exact absurd rfl hr.ne
 | cons x r=>
   obtain⟨g1,g2,g3,g4⟩:=hr.run;have hx:=hm x bY;have hk:=hK x bY;have li:=t.li hx;have:=(Xr hT t.key r _ (λy hy=>hm y (bX _ hy)) g4).2;have b:=hT x hx;have a1:=li.k1;have a2:=li.k4;have a3:=li.c0;have a4:=li.c1
   rw[g2] at a1 a2 a3 a4;have ho:OrdP s:=⟨by omega,by omega,a1,a2,by omega,by omega,by omega⟩
   rw[jrd ho,h1]
end
section
variable {w h:Nat} {T:List aW}
def jgp {k:Int} (hk:1<=k/\k<=3):∀(us:List bW) (out:List bQ),OutOK T out->(out.map dL++us).Nodup->(∀v∈us,v∈T.map (·.1))->lD k out us=some (out++us.map λv=>(v.1,(v.2,k)))
 | [],out,_,_,_=>by simp[lD]
 | v::us,out,ho,hn,hs=>by
   have hv:bP out v=0:=by
    rw[Ah ho];intro hm;rw[yL] at hn;exact hn.2.2 v hm v bY rfl
   have e1:(out++[(v.1,(v.2,k))]).map dL++us=out.map dL++v::us:=by simp[dL]
   rw[lD,aK hv,jgp hk us _ (ho.add hv (hs v bY) hk) (by rw[e1];exact hn) λx hx=>hs x (bX _ hx)];simp
def jcm (t:Tab w h T) (hw:w<=6) (hh:h<=6) {K:bW->Int}:∀(RS:List (bJ×List aW)) (i:Int) (out:List bQ),OutOK T out->(∀s∈RS,Run K s.1 s.2)->(∀x∈RS.flatMap (·.2),x∈T/\1<=K x.1/\K x.1<=3)->
  (out.map dL++(RS.flatMap (·.2)).map (·.1)).Nodup->iL T i out (RS.map (·.1))=.inl (out++(RS.flatMap (·.2)).map λx=>(x.1.1,(x.1.2,K x.1)))
 | [],i,out,_,_,_,_=>by simp[iL]
 | s::RS,i,out,ho,hr,hm,hn=>by
   have hs:=hr s bY;rw[lM] at hm hn ⊢;have hm1:∀x∈s.2,x∈T/\1<=K x.1/\K x.1<=3:=λx hx=>hm x (List.mem_append_left _ hx)
   have hu:=jf9 t hw hh hs (λx hx=>(hm1 x hx).1) (λx hx=>(hm1 x hx).2);have hK:∀(r:List aW) (p q:Int),Cy K s.1.1 s.1.2.1 p r q->∀x∈r,K x.1=s.1.1:=by
    intro r;induction r with
    | nil=>intro p q _ x hx;cases hx
    | cons y r ih=>
      intro p q hr x hx;rcases bL.1 hx with rfl | hx
      ·exact hr.1
      ·exact ih _ _ hr.2.2.2 x hx
   have hK:=hK _ _ _ hs.run;have hk:1<=s.1.1/\s.1.1<=3:=by
    cases hs2:s.2 with
    | nil=>exact absurd hs2 hs.ne
    | cons y r=>
      rw[hs2] at hK hm1;rw[<-hK y bY];exact(hm1 y bY).2
   have hn1:(out.map dL++s.2.map (·.1)).Nodup:=by
    rw[fY,<-cD] at hn;exact(yL.1 hn).1
   have ha:=jgp hk (s.2.map (·.1)) out ho hn1 (λv hv=>by obtain⟨x,hx,rfl⟩:=bU.1 hv;exact bU.2 ⟨x,(hm1 x hx).1,rfl⟩);have ho2:=Yb hk _ _ _ ho (λv hv=>by obtain⟨x,hx,rfl⟩:=bU.1 hv;exact bU.2 ⟨x,(hm1 x hx).1,rfl⟩) ha;have e2:(s.2.map (·.1)).map (λv:bW=>((v.1,(v.2,s.1.1)):bQ))=s.2.map λx=>(x.1.1,(x.1.2,K x.1)):=by
    rw[lO];refine oM λx hx=>?_
    simp only[qf1];rw[hK x hx]
   rw[dA,iL,hu];simp only[bR];rw[ha];simp only;rw[jcm t hw hh RS _ _ ho2 (λx hx=>hr x (bX _ hx)) (λx hx=>hm x (List.mem_append_right _ hx)) ?_,e2]
   ·simp
   ·have e3:(out++(s.2.map (·.1)).map (λv:bW=>((v.1,(v.2,s.1.1)):bQ))).map dL=out.map dL++s.2.map (·.1):=by
     rw[fY,lO]
     congr 1
     exact(oM λx hx=>rfl).trans (List.map_id' _)
    rw[e3,cD,<-fY];exact hn
end
end X
end Go.Vm
namespace Go.Vm
namespace X
open W
end X
end Go.Vm
namespace Go.Vm
namespace X
open W Go.RowKit Go.Proofs.Un
def jfb:∀(U:List bW) (A:List Int),((lA U A).map dL).Sublist U
 | [],A=>by cases A<;>exact List.Sublist.refl _
 | u::U,[]=>List.nil_sublist _
 | u::U,a::A=>by
   by_cases h:a=0
   ·rw[lA,aK h];exact(jfb U A).cons _
   ·rw[lA,aD h,dA];exact(jfb U A).cons_cons _
def je9:∀(U:List bW) (A:List Int) (c:bQ),c∈lA U A->c.2.2∈A/\c.2.2≠0
 | [],A,c,h=>by cases A<;>cases h
 | u::U,[],c,h=>by cases h
 | u::U,a::A,c,h=>by
   by_cases h0:a=0
   ·rw[lA,aK h0] at h;have:=je9 U A c h;exact⟨bX _ this.1,this.2⟩
   ·rw[lA,aD h0] at h;rcases bL.1 h with rfl | h
    ·exact⟨bY,h0⟩
    ·have:=je9 U A c h;exact⟨bX _ this.1,this.2⟩
structure PatOK (T:List aW) (cr:List bQ):Prop where
 ok:OutOK T cr
 pw:(cr.map dL).Pairwise xS
section
variable {w h:Nat} {T:List aW}
def jrk (t:Tab w h T) {A:List Int} (hA:∀a∈A,0<=a/\a<=3):PatOK T (lA (T.map (·.1)) A):=by
 have hs:=jfb (T.map (·.1)) A;refine⟨⟨hs.nodup t.ndU,λc hc=>hs.subset (bU.2 ⟨c,hc,rfl⟩),λc hc=>?_⟩,List.Pairwise.sublist hs t.asc⟩;have:=je9 _ _ _ hc;have:=hA _ this.1;omega
def jyy (t:Tab w h T) (hw:1<=w/\w<=6) (hh:1<=h/\h<=6) {cr:List bQ} (ho:PatOK T cr):kA T cr=cr:=by
 have hs:=Qo t cr;refine Mt lE (λx hx y hy h1 h2=>?_) (hs.imp λ{a b} h c=>by rw[wX] at *;omega) ?_ (Qn t ho.ok).symm
 ·obtain⟨i,hi,rfl⟩:=mS hx;obtain⟨j,hj,rfl⟩:=mS hy;rw[pQ] at hs;rcases Bf i j with g | g | g
  ·exact absurd (hs i j hi hj g) h1
  ·subst g;rfl
  ·exact absurd (hs j i hj hi g) h2
 ·have hp:=To.1 ho.pw;have:cr.Pairwise λa b=>(a∈cr/\b∈cr)/\xS (dL a) (dL b):=by
   rw[pQ] at hp ⊢;exact λi j hi hj hij=>⟨⟨dU _,dU _⟩,hp i j hi hj hij⟩
  refine this.imp λ{a b} ⟨⟨ha,hb⟩,hl⟩ c=>?_
  have m1:=Km t hw hh (ho.ok.sub a ha);have m2:=Km t hw hh (ho.ok.sub b hb);unfold dL at m1 m2;simp only at m1 m2;rw[wX,Ho (by omega) (by omega),Ho (by omega) (by omega)] at c;unfold xS dL at hl;simp only at hl;omega
def jxk {cr:List bQ} (ho:PatOK T cr):Jb T cr=0:=by
 unfold Jb;rw[aK (show ∀c∈cr,vE c from ho.ok.k1),aK ho.ok.sub,aK];intro j hj hjn;have hp:=To.1 ho.pw;rw[pQ] at hp;exact hp j (j+1) (by omega) hj (by omega)
def j68 {RS:List (bJ×List aW)} {K:bW->Int} (h:∀s∈RS,Run K s.1 s.2):RS.length<=(RS.flatMap (·.2)).length:=by
 induction RS with
 | nil=>simp
 | cons s RS ih=>
   have h1:=(h s bY).ne;have h2:=ih λx hx=>h x (bX _ hx)
   rw[lM,dS,dG];have:1<=s.2.length:=by
    cases hs:s.2 with
    | nil=>exact absurd hs h1
    | cons y r=>simp
   omega
structure SegOK (T:List aW) (w h:Nat) (cr:List bQ) (X:List bJ):Prop where
 len:X.length<=1000
 un:∀s∈X,(gA T s).2=0
 sum:(X.map λs=>(gA T s).1.length).sum=cr.length
 pat:pP T w h X=(((w:Int),((h:Int),cr)),(0,0))
 ng:qF xX X=true
def yS (t:Tab w h T) (hw:1<=w/\w<=6) (hh:1<=h/\h<=6) {cr:List bQ} (ho:PatOK T cr):SegOK T w h cr (fD T w h (bP cr)):=by
 obtain⟨RS,h1,h2,h3⟩:=j7e t (bP cr);have hm:∀x∈RS.flatMap (·.2),x∈T/\1<=bP cr x.1/\bP cr x.1<=3:=λx hx=>by
  rw[h3,Qk t] at hx;refine⟨hx.1,?_⟩;have hin:x.1∈cr.map dL:=sO λhn=>hx.2 ((Ah ho.ok).2 hn)
  obtain⟨c,hc,ec⟩:=bU.1 hin;have:=Ke ho.ok.nd hc;rw[ec] at this;rw[this];exact ho.ok.k1 c hc
 have hfl:(fL T w h (bP cr)).length=cr.length:=by
  have:=(jdb t ho.ok).length_eq;rw[jda,dM] at this;rw[this];unfold kW;rw[dM]
 have hcl:=ho.ok.len t hw.2 hh.2;have hu:∀s∈RS,gA T s.1=(s.2.map (·.1),0):=λs hs=>by
  have hsub:∀x∈s.2,x∈RS.flatMap (·.2):=λx hx=>yH.2 ⟨s,hs,hx⟩
  exact jf9 t hw.2 hh.2 (h2 s hs) (λx hx=>(hm x (hsub x hx)).1) λx hx=>(hm x (hsub x hx)).2
 have hnd:((RS.flatMap (·.2)).map (·.1)).Nodup:=by
  rw[h3];unfold fL;have hw2:((mX T w h).map (·.1)).Nodup:=by
   have:=(je8 t).map (·.1);exact this.symm.nodup t.ndU
  exact(List.Sublist.map _ List.filter_sublist).nodup hw2
 refine⟨?_,?_,?_,?_,j7d t _⟩
 ·rw[h1,dM];have:=j68 h2;rw[h3,hfl] at this;omega
 ·intro s hs;rw[h1] at hs;obtain⟨r,hr,rfl⟩:=bU.1 hs;rw[hu r hr]
 ·rw[h1,lO,<-hfl,<-h3,List.length_flatMap]
  congr 1
  refine oM λs hs=>?_
  simp only[qf1];rw[hu s hs,dM]
 ·unfold pP;rw[h1,jcm t hw.2 hh.2 RS 0 [] Ar h2 hm (by simpa using hnd)];simp only[dZ];have hout:OutOK T ((RS.flatMap (·.2)).map λx=>((x.1.1,(x.1.2,bP cr x.1)):bQ)):=by
   refine Sr (RS.map (·.1)) 0 [] _ Ar ?_;rw[jcm t hw.2 hh.2 RS 0 [] Ar h2 hm (by simpa using hnd)];rfl
  have hfe:kA T ((RS.flatMap (·.2)).map λx=>((x.1.1,(x.1.2,bP cr x.1)):bQ))=kA T cr:=by
   unfold kA;refine jac λx hx=>?_
   have hk:bP ((RS.flatMap (·.2)).map λx=>((x.1.1,(x.1.2,bP cr x.1)):bQ)) x.1=bP cr x.1:=by
    by_cases h0:bP cr x.1=0
    ·rw[h0,Ah hout];intro hin;obtain⟨c,hc,ec⟩:=bU.1 hin;obtain⟨y,hy,rfl⟩:=bU.1 hc;have hy2:=hm y hy;have:y.1=x.1:=ec;rw[this,h0] at hy2;omega
    ·have hin:x∈RS.flatMap (·.2):=by rw[h3,Qk t];exact⟨hx,h0⟩
     exact Ke hout.nd (c:=(x.1.1,(x.1.2,bP cr x.1))) (bU.2 ⟨x,hin,rfl⟩)
   rw[hk]
  rw[hfe,jyy t hw hh ho]
def Xk (t:Tab w h T) (hw:1<=w/\w<=6) (hh:1<=h/\h<=6) {cr:List bQ} (ho:PatOK T cr):yT fuel ((w:Int),((h:Int),cr))=some (fD T w h (bP cr),0):=by
 have hcl:=ho.ok.len t hw.2 hh.2;refine jup t hw hh ?_ ho.ok;rw[jt9 t hw hh (by omega) λc hc=>(Km t hw hh (ho.ok.sub c hc)).2.2.1,jxk ho]
def jur {a:Int×(Int×List Int)} (h1:0<=a.1) (h3:0<=a.2.1) (hk:∀k∈a.2.2,0<=k):
  ∃w h:Nat,(1<=w/\w<=4)/\(1<=h/\h<=4)/\∀T,Tab w h T->∃cr,PatOK T cr/\Ek fuel a=some ((w:Int),((h:Int),cr)):=by
 refine⟨1+ (a.1%4).toNat,1+ (a.2.1%4).toNat,by omega,by omega,λT t=>?_⟩;suffices hs:Ret (Ek fuel a) λr=>∃A:List Int,(∀k∈A,0<=k/\k<=3)/\r=(((1+ (a.1%4).toNat:Nat):Int),(((1+ (a.2.1%4).toNat:Nat):Int),lA (T.map (·.1)) A)) by
  obtain⟨r,hr,A,hA,rfl⟩:=hs;exact⟨_,jrk t hA,hr⟩
 have ew:1+a.1%4=((1+ (a.1%4).toNat:Nat):Int):=by omega
 have eh:1+a.2.1%4=((1+ (a.2.1%4).toNat:Nat):Int):=by omega
 generalize hw:1+ (a.1%4).toNat=w at ew t ⊢;generalize hh:1+ (a.2.1%4).toNat=h at eh t ⊢;have bw:1<=w/\w<=6:=by omega
 have bh:1<=h/\h<=6:=by omega
 have hwh:w*h<=6*6:=pU bw.2 bh.2;have e6:6* (w:Int)* (h:Int)=((6* (w*h):Nat):Int):=by simp[Uc]
 unfold Ek;rw[ew,eh];refine bB (by simp only[aN,aH];omega) (cI (cI (bB (by simp only[aN,aH];omega) (cI (cI (cI (bB (by rw[e6];exact cM (by omega) (by omega)) (bB (by rw[e6];simp only[aN,aH];omega) ?_))))))));have hlen:(List.replicate (α:=Int) (6* (w:Int)* (h:Int)).toNat 0).length=6* (w*h):=by rw[Tj,e6,fF]
 have fin:∀A:List Int,A.length=6* (w*h)->(∀k∈A,0<=k/\k<=3)->Ret ((Bq fuel (((w:Int),(h:Int)),A)).bind λr2=>some (r2.1,(r2.2.1,r2.2.2))) λr=>∃A:List Int,(∀k∈A,0<=k/\k<=3)/\r=((w:Int),((h:Int),lA (T.map (·.1)) A)):=λA hA hA2=>by
  rw[jgo t bw bh (by omega),aO];exact cB ⟨A,hA2,rfl⟩
 refine gZ (λs:Int×(List Int×Option Nat)=>0<=s.1/\s.1<=6* (w*h)/\s.2.1.length=6* (w*h)/\∀k∈s.2.1,0<=k/\k<=3) (λs=>6* (w*h)-s.1.toNat) ?_ fuel _ ⟨by omega,by omega,hlen,λk hk=>by have:=(List.mem_replicate.1 hk).2;omega⟩ (by simp only[fuel];omega);rintro ⟨i,A,cp⟩ rec ⟨i0,i1,hA,hA2⟩ hrec;simp only at i0 i1 hA hA2;refine aS (λg1=>aS (λg2=>?_) λ_=>fin A hA hA2) λ_=>fin A hA hA2
 simp only at g1 g2;have hi:i.toNat<a.2.2.length:=by omega
 have hge:0<=a.2.2.getD i.toNat 0:=by
  rw[jF,dK hi];exact hk _ (dU hi)
 refine bB (cZ i0 g2) (bB (by simp only[aN,aH];omega) (bB (cZ i0 g1) (cI (hrec _ ⟨by simp only;omega,by simp only;omega,by simp only[yI];exact hA,λk hk=>?_⟩ (by simp only;omega)))));simp only at hk;rcases qgg hk with hk | rfl
 ·exact hA2 k hk
 ·omega
end
def jgm (s:Int×Int):mE fuel s=some 1/\1<=s.1/\1<=s.2\/mE fuel s=some 0/\iN fuel s=some 1:=by
 by_cases h1:s.1<1
 ·exact .inr ⟨by unfold mE;simp only[h1,bA,aB],by unfold iN;simp only[h1,bA,aB]⟩
 by_cases h2:s.2<1
 ·exact .inr ⟨by unfold mE;simp only[h1,h2,bA,bM,aB,aF],by unfold iN;simp only[h1,h2,bA,bM,aB,aF]⟩
 by_cases h3:256<s.1
 ·exact .inr ⟨by unfold mE;simp only[h1,h2,h3,bA,bM,aB,aF],by unfold iN;simp only[h1,h2,h3,bA,bM,aB,aF]⟩
 by_cases h4:256<s.2
 ·exact .inr ⟨by unfold mE;simp only[h1,h2,h3,h4,bA,bM,aB,aF],by unfold iN;simp only[h1,h2,h3,h4,bA,bM,aB,aF]⟩
 have hb:aC (s.1*s.2)=true:=by
  obtain⟨x,hx⟩:∃x:Nat,s.1=(x:Int):=⟨s.1.toNat,by omega⟩
  obtain⟨y,hy⟩:∃y:Nat,s.2=(y:Int):=⟨s.2.toNat,by omega⟩
  have hxy:x*y<=256*256:=pU (by omega) (by omega);have e:s.1*s.2=((x*y:Nat):Int):=by rw[hx,hy];simp
  rw[e];exact cM (by omega) (by omega)
 by_cases h5:256<s.1*s.2
 ·exact .inr ⟨by unfold mE;simp only[h1,h2,h3,h4,bM,aF];rw[hb];simp only[aA,h5,bA,aB],by unfold iN;simp only[h1,h2,h3,h4,bM,aF];rw[hb];simp only[aA,h5,bA,aB]⟩
 ·exact .inl ⟨by unfold mE;simp only[h1,h2,h3,h4,bM,aF];rw[hb];simp only[aA,h5,bM,aB,aF],by omega,by omega⟩
set_option maxRecDepth 100000
def jn1 {T:List aW}:∀(l:List bJ) (i:Int) (out:List bQ) (j e:Int),iL T i out l=.inr (j,e)->i<=j/\j<=i+l.length/\e≠0
 | [],i,out,j,e,h=>by unfold iL at h;cases h
 | x::l,i,out,j,e,h=>by
   unfold iL at h;have hl:(((x::l).length:Nat):Int)=l.length+1:=by simp
   split at h
   ·split at h
    ·cases h;omega
    ·have:=jn1 l _ _ _ _ h;omega
   ·rename_i g;cases h;exact⟨by omega,by omega,g⟩
def j43 {w h:Nat} {T:List aW} (t:Tab w h T) (l:List bJ):(∃cr,PatOK T cr/\pP T w h l=(((w:Int),((h:Int),cr)),(0,0)))\/(∃i e:Int,0<=i/\i<=l.length/\e≠0/\pP T w h l=((0,(0,[])),(i,e))):=by
 unfold pP;cases e:iL T 0 [] l with
 | inl out=>
   have ho:=Sr l 0 [] out Ar e;refine .inl ⟨kA T out,?_,rfl⟩;have hf:kA T out=lA (T.map (·.1)) (T.map λx=>bP out x.1):=(jfa (bP out) T).symm;rw[hf];refine jrk t λa ha=>?_
   obtain⟨x,_,rfl⟩:=bU.1 ha;by_cases h0:bP out x.1=0
   ·omega
   ·have hin:x.1∈out.map dL:=tY.1 λg=>h0 ((Ah ho).2 g)
    obtain⟨c,hc,ec⟩:=bU.1 hin;have:=Ke ho.nd hc;rw[ec] at this;have:=ho.k1 c hc;omega
 | inr r=>
   obtain⟨j,er⟩:=r;have:=jn1 l 0 [] j er e;exact .inr ⟨j,er,by omega,by omega,this.2.2,rfl⟩
def jcx:∀(P:List (List Nat)) (i:Nat) (sh sh':Int×Int) (l l':List cW) (body body':List Nat) (sum:Int),cU i sh l body P=.inr (sh',(l',(sum,body')))->l'.length<=l.length+P.length
 | [],i,sh,sh',l,l',body,body',sum,h=>by rw[cU] at h;cases h
 | [e],i,sh,sh',l,l',body,body',sum,h=>by rw[cU] at h;cases h
 | w::v::ws,i,sh,sh',l,l',body,body',sum,h=>by
   rw[cU] at h;have hl:(w::v::ws).length=(v::ws).length+1:=rfl;split at h
   ·split at h
    ·simp only[qha,aM] at h;rw[<-h.2.1];omega
    ·cases h
   ·split at h
    ·split at h
     ·cases h
     ·have:=jcx _ _ _ _ _ _ _ _ _ h;omega
    ·split at h
     ·cases h
     ·have:=jcx _ _ _ _ _ _ _ _ _ h;simp only[dS,kC] at this;omega
def iK (X:List cW):Nat->List cW->Option Int
 | _,[]=>none
 | i,y::r=>if X[i]?=some y then iK X (i+1) r else some ((i:Int)+2)
def jpe (a b:cW):(decide (a.1=b.1)&&(decide (a.2.1.1=b.2.1.1)&&(decide (a.2.1.2=b.2.1.2)&&(decide (a.2.2.1=b.2.2.1)&&decide (a.2.2.2=b.2.2.2)))))=decide (a=b):=by
 obtain⟨a1,⟨a2,a3⟩,a4,a5⟩:=a;obtain⟨b1,⟨b2,b3⟩,b4,b5⟩:=b;simp only[aM,Bool.decide_and,Bool.and_assoc]
def Di (q:Int×(Int×List bQ)) (c:Option Int):uL:=match c with
 | none=>(q,(0,0))
 | some m=>((0,(0,[])),(m,6))
inductive Dec (s:List Nat):uL->Prop
 | bad (n:Int) (h0:0<n) (h:cU 0 (0,0) [] [] (aY 10 s)=.inl n):Dec s (zS n)
 | sum (sh:Int×Int) (l:List cW) (sum:Int) (body:List Nat) (h:cU 0 (0,0) [] [] (aY 10 s)=.inr (sh,(l,(sum,body)))) (h1:sum≠dE body):Dec s ((0,(0,[])),((l.length:Int)+2,10))
 | sheet (sh:Int×Int) (l:List cW) (sum:Int) (body:List Nat) (h:cU 0 (0,0) [] [] (aY 10 s)=.inr (sh,(l,(sum,body)))) (h1:sum=dE body) (hv:mE fuel sh=some 0):Dec s ((0,(0,[])),(1,1))
 | pat (w h:Nat) (l:List cW) (sum:Int) (body:List Nat) (hr:cU 0 (0,0) [] [] (aY 10 s)=.inr (((w:Int),(h:Int)),(l,(sum,body)))) (j er:Int) (h0:0<=j) (h1:er≠0):Dec s ((0,(0,[])),(j+2,er))
 | cmp (w h:Nat) (T:List aW) (t:Tab w h T) (hw:1<=w/\w<=6) (hh:1<=h/\h<=6) (l:List cW) (sum:Int) (body:List Nat) (hr:cU 0 (0,0) [] [] (aY 10 s)=.inr (((w:Int),(h:Int)),(l,(sum,body)))) (h1:sum=dE body)
    (cr:List bQ) (hcr:PatOK T cr) (hpr:pP T w h l=(((w:Int),((h:Int),cr)),(0,0))):Dec s (Di ((w:Int),((h:Int),cr)) (iK (fD T w h (bP cr)) 0 l))
def jiz {s:List Nat} (hs:s.length<=65536) (hB:∀x∈s,x<256) (hp:∀w∈aY 10 s,w.length<=1000)
  (hsh:∀sh l sum body,cU 0 (0,0) [] [] (aY 10 s)=.inr (sh,(l,(sum,body)))->sum=dE body->mE fuel sh=some 0\/∃(w h:Nat) (T:List aW),sh=((w:Int),(h:Int))/\(1<=w/\w<=6)/\(1<=h/\h<=6)/\Tab w h T):
  ∃r,Dec s r/\r.1.2.2.length<=1000/\jA fuel s=some r/\Ai fuel s=some r:=by
 have hdv:=Zi (s:=s) (by omega) hp;have htl:=j9y (s:=s) (by omega) hB hp;have hPl:(aY 10 s).length<=65537:=by have:=(uT 10 s).1;omega
 generalize hP:aY 10 s=P at hp htl hPl hsh hdv;cases hr:cU 0 (0,0) [] [] P with
 | inl n=>
   have hn:=Ug _ _ _ _ _ _ hr;rw[hr] at hdv htl;refine⟨zS n,.bad n (by omega) (by rw[hP];exact hr),by simp[zS],?_,htl⟩;apply Ret.eq;unfold jA;refine aS (λg=>absurd g (by omega)) λ_=>?_
   rw[hdv,aO];exact aS (λ_=>cB rfl) λg=>absurd (show(0:Int)<n by omega) g
 | inr a=>
   obtain⟨sh,l,sum,body⟩:=a;have hll:=jcx _ _ _ _ _ _ _ _ _ hr;obtain⟨lw,_,hsb⟩:=joj (s:=s) (by rw[hP];exact hr);rw[hr] at hdv htl;have hbl:body.length<=s.length:=by rw[hsb];simp
   have hl:l.length<=70000:=by simp at hll;omega
   have htk:(s.drop 0).take ((body.length:Int)).toNat=body:=by rw[hsb];simp
   have hbB:∀x∈body,x<256:=λx hx=>hB x (by rw[hsb];simp[hx])
   have hsb2:=rK body;have e1:xB fuel body=some (dE body):=jdx (by omega);have e2:Br fuel body=some (dE body):=jot (by omega) hbB;have told1:Ai fuel s=Cn fuel (tD l body sum ((l.length:Int)+2) (P.length:Int) sh):=htl;by_cases hsum:sum=dE body
   ·rcases hsh sh l sum body hr hsum with hv | ⟨w,h,T,rfl,hw,hh,t⟩
    ·have hc:iN fuel sh=some 1:=by
      rcases jgm sh with⟨g,_⟩ | ⟨_,g⟩
      ·rw[hv] at g;cases g
      ·exact g
     refine⟨((0,(0,[])),(1,1)),.sheet sh l sum body (by rw[hP];exact hr) hsum hv,by simp,?_,?_⟩
     ·apply Ret.eq;unfold jA;refine aS (λg=>absurd g (by omega)) λ_=>?_
      rw[hdv,aO];simp only[vK];refine aS (λg=>absurd g (by omega)) λ_=>bB (fH.2 ⟨by omega,by omega,by omega⟩) ?_
      rw[htk,e1,aO];refine cI (aS (λg=>absurd hsum g) λ_=>?_);rw[hc,aO];exact aS (λ_=>cB rfl) λg=>absurd (by decide) g
     ·rw[told1];apply Ret.eq;unfold Cn tD;simp only;rw[e2,aO];refine aS (λg=>absurd hsum g) λ_=>?_
      rw[hv,aO];exact aS (λ_=>cB rfl) λg=>absurd rfl g
    ·have hc:=Bw hw hh;have hv:=j6q hw hh;have hpo:=jfv t hw hh (l:=l) (by omega);have hro:=j6n t hw hh (l:=l) (by omega);rcases j43 t l with⟨cr,hcr,hpr⟩ | ⟨j,er,j0,j1,j2,hpr⟩
     ·have hof:=Xk t hw hh hcr;have hcl:=hcr.ok.len t hw.2 hh.2;have hrof:=jow t hw hh (cr:=cr) (by omega);have hseg:=yS t hw hh hcr;rw[hpr] at hpo hro;have hdec:Dec s (Di ((w:Int),((h:Int),cr)) (iK (fD T w h (bP cr)) 0 l)):=.cmp w h T t hw hh l sum body (by rw[hP];exact hr) hsum cr hcr hpr;generalize fD T w h (bP cr)=X at hof hrof hseg hdec;refine⟨Di ((w:Int),((h:Int),cr)) (iK X 0 l),hdec,by cases iK X 0 l<;>simp[Di];omega,?_,?_⟩
      ·apply Ret.eq;unfold jA;refine aS (λg=>absurd g (by omega)) λ_=>?_
       rw[hdv,aO];simp only[vK];refine aS (λg=>absurd g (by omega)) λ_=>bB (fH.2 ⟨by omega,by omega,by omega⟩) ?_
       rw[htk,e1,aO];refine cI (aS (λg=>absurd hsum g) λ_=>?_);rw[hc,aO];refine aS (λg=>absurd rfl g) λ_=>?_
       rw[hpo,aO];refine aS (λg=>absurd rfl g) λ_=>?_
       rw[hof,aO];refine gZ (λp:Int×(Int×(Int×Unit))=>∃i:Nat,p=((i:Int),(0,(0,())))/\i<=l.length/\iK X 0 l=iK X i (l.drop i)) (λp=>l.length-p.1.toNat) ?_ fuel (0,(0,(0,()))) ⟨0,rfl,fM _,rfl⟩ (by simp only[fuel];omega);rintro _ rec ⟨i,rfl,hi,hcm⟩ ih;simp only at ih ⊢;refine aS (λhlt=>?_) λhge=>?_
       ·have hlt:i<l.length:=by omega
        rw[mB hlt,iK] at hcm;refine kN (aS (λg=>?_) λg=>?_)
        ·rw[aD (by rw[tW (by omega)];simp)] at hcm;exact cI (cB (by rw[hcm];rfl))
        ·have hx:i<X.length:=by omega
         have conv:∀c:Bool,(!(decide ((X.getD ((i:Int)).toNat (0,((0,0),(0,0)))).1=(l.getD ((i:Int)).toNat (0,((0,0),(0,0)))).1)&&(decide ((X.getD ((i:Int)).toNat (0,((0,0),(0,0)))).2.1.1=(l.getD ((i:Int)).toNat (0,((0,0),(0,0)))).2.1.1)&&(decide ((X.getD ((i:Int)).toNat (0,((0,0),(0,0)))).2.1.2=(l.getD ((i:Int)).toNat (0,((0,0),(0,0)))).2.1.2)&&(decide ((X.getD ((i:Int)).toNat (0,((0,0),(0,0)))).2.2.1=(l.getD ((i:Int)).toNat (0,((0,0),(0,0)))).2.2.1)&&decide ((X.getD ((i:Int)).toNat (0,((0,0),(0,0)))).2.2.2=(l.getD ((i:Int)).toNat (0,((0,0),(0,0)))).2.2.2))))))=c->(!decide (X[i]=l[i]))=c:=λc hcc=>by
          rw[jpe,lH hlt,lH hx] at hcc;exact hcc
         refine kN (iI (λg2=>?_) λg2=>?_)
         ·have g2':=conv true g2
          have g3:¬X[i]=l[i]:=by simpa using g2'
          rw[aD (by rw[dK hx];simpa using g3)] at hcm;exact cI (cB (by rw[hcm];rfl))
         ·have g2':=conv false g2
          have g3:X[i]=l[i]:=by simpa using g2'
          rw[aK (by rw[dK hx,g3])] at hcm;exact cI (ih _ ⟨i+1,by simp,hlt,hcm⟩ (by simp only;omega))
       ·have:i=l.length:=by omega
        subst this;rw[sT,iK] at hcm;exact bB (by simp[mN]) (cB (by rw[hcm];rfl))
      ·rw[told1];apply Ret.eq;unfold Cn tD;simp only;rw[e2,aO];refine aS (λg=>absurd hsum g) λ_=>?_
       rw[hv,aO];refine aS (λg=>absurd g (by decide)) λ_=>?_
       rw[hro,aO];refine aS (λg=>absurd rfl g) λ_=>?_
       rw[hrof,aO];refine gZ (λp:Int×(Int×(Int×Unit))=>∃i:Nat,p=((i:Int),(0,(0,())))/\i<=l.length/\iK X 0 l=iK X i (l.drop i)) (λp=>l.length-p.1.toNat) ?_ fuel (0,(0,(0,()))) ⟨0,rfl,fM _,rfl⟩ (by simp only[fuel];omega);rintro _ rec ⟨i,rfl,hi,hcm⟩ ih;simp only at ih ⊢;refine aS (λhlt=>?_) λhge=>?_
       ·have hlt:i<l.length:=by omega
        rw[mB hlt,iK] at hcm;refine aS (λg=>?_) λg=>?_
        ·rw[aD (by rw[tW (by omega)];simp)] at hcm;exact cI (cB (by rw[hcm];rfl))
        ·have hx:i<X.length:=by omega
         rw[lH hlt,lH hx,jpe];refine kN (kN (iI (λg2=>?_) λg2=>?_))
         ·have g3:¬X[i]=l[i]:=λg=>by rw[g] at g2;simp at g2
          rw[aD (by rw[dK hx];simpa using g3)] at hcm;exact cI (cB (by rw[hcm];rfl))
         ·have g3:l[i]=X[i]:=by simpa using g2
          rw[aK (by rw[dK hx,g3])] at hcm;exact cI (ih _ ⟨i+1,by simp,hlt,hcm⟩ (by simp only;omega))
       ·have:i=l.length:=by omega
        subst this;rw[sT,iK] at hcm;exact cB (by rw[hcm];rfl)
     ·rw[hpr] at hpo hro;refine⟨((0,(0,[])),(j+2,er)),.pat w h l sum body (by rw[hP];exact hr) j er j0 j2,by simp,?_,?_⟩
      ·apply Ret.eq;unfold jA;refine aS (λg=>absurd g (by omega)) λ_=>?_
       rw[hdv,aO];simp only[vK];refine aS (λg=>absurd g (by omega)) λ_=>bB (fH.2 ⟨by omega,by omega,by omega⟩) ?_
       rw[htk,e1,aO];refine cI (aS (λg=>absurd hsum g) λ_=>?_);rw[hc,aO];refine aS (λg=>absurd rfl g) λ_=>?_
       rw[hpo,aO];exact aS (λ_=>bB (cM (by simp only;omega) (by simp only;omega)) (cB rfl)) λg=>absurd j2 g
      ·rw[told1];apply Ret.eq;unfold Cn tD;simp only;rw[e2,aO];refine aS (λg=>absurd hsum g) λ_=>?_
       rw[hv,aO];refine aS (λg=>absurd g (by decide)) λ_=>?_
       rw[hro,aO];exact aS (λ_=>bB (cM (by simp only;omega) (by simp only;omega)) (cB rfl)) λg=>absurd j2 g
   ·refine⟨((0,(0,[])),((l.length:Int)+2,10)),.sum sh l sum body (by rw[hP];exact hr) hsum,by simp,?_,?_⟩
    ·apply Ret.eq;unfold jA;refine aS (λg=>absurd g (by omega)) λ_=>?_
     rw[hdv,aO];simp only[vK];refine aS (λg=>absurd g (by omega)) λ_=>bB (fH.2 ⟨by omega,by omega,by omega⟩) ?_
     rw[htk,e1,aO];exact cI (aS (λ_=>cI (cB rfl)) λg=>absurd hsum g)
    ·rw[told1];apply Ret.eq;unfold Cn tD;simp only;rw[e2,aO];exact aS (λ_=>cB rfl) λg=>absurd hsum g
def Gp {w h:Nat} {T:List aW} (t:Tab w h T) (hw:1<=w/\w<=6) (hh:1<=h/\h<=6) {cr:List bQ} (hcr:PatOK T cr):∀x∈fD T w h (bP cr),OkX x:=by
 intro x hx;have hu:=(yS t hw hh hcr).un x hx;have ho:OrdP x:=tY.1 λg=>by rw[jrc g] at hu;cases hu
 have hT:=t.tb hw.2 hh.2;have hf:¬(64<x.2.2.2\/x.2.2.1 < -64):=λg=>kab hT g hu
 exact⟨⟨ho.k1,ho.k3,ho.l1,ho.l4,ho.c0,ho.c1,ho.ft⟩,by omega,by omega⟩
def bZ (w h:Nat) (X:List cW):List Nat:=(dD++32::cF (w:Int)++32::cF (h:Int)++[10])++(X.map λx=>dF x++[10]).flatten
def Qd {n:Int} (h0:0<=n) (h:n<1000000000):(cF n).length<=20:=pB 20 _
def jou {w h:Nat} {T:List aW} (t:Tab w h T) (hw:1<=w/\w<=6) (hh:1<=h/\h<=6) {cr:List bQ} (hcr:PatOK T cr):Ly fuel ((w:Int),((h:Int),cr))=some (bZ w h (fD T w h (bP cr))):=by
 have hx:=Gp t hw hh hcr;have hl:=(yS t hw hh hcr).len;have hcl:=hcr.ok.len t hw.2 hh.2;have d1:=Qd (n:=(w:Int)) (by omega) (by omega);have d2:=Qd (n:=(h:Int)) (by omega) (by omega);have hro:=jow t hw hh (cr:=cr) (by omega);generalize fD T w h (bP cr)=X at hx hl hro ⊢;apply Ret.eq;unfold Ly;simp only;rw[Hu (n:=(w:Int)) (by omega) (by omega),aO];refine zG (bB (cK (by simp;omega)) ?_);rw[Hu (n:=(h:Int)) (by omega) (by omega),aO];refine bB (cK (by simp;omega)) (bB (cK (by simp;omega)) ?_);rw[hro,aO];refine gZ (λp:List Nat×Int=>∃i:Nat,p.2=i/\i<=X.length/\p.1.length<=100+41*i/\p.1++((X.drop i).map λx=>dF x++[10]).flatten=bZ w h X) (λp=>X.length-p.2.toNat) ?_ fuel _ ⟨0,rfl,fM _,by simp;omega,by simp[bZ,dD]⟩ (by simp only[fuel];omega);rintro ⟨b,i'⟩ rec ⟨i,e,hi,hb,he⟩ ih;simp only at e hb he ih ⊢;subst e;refine aS (λhlt=>?_) λhge=>?_
 ·have hlt:i<X.length:=by omega
  have hxi:=hx _ (dU hlt);have hsl:=Bv hxi;rw[lH hlt];refine kN ?_;rw[show((X[i].1,((X[i].2.1.1,X[i].2.1.2),(X[i].2.2.1,X[i].2.2.2))):cW)=X[i] from rfl,j6r hxi,aO];refine zG (bB (cK (by simp;omega)) (cI (ih _ ⟨i+1,by simp,hlt,by simp;omega,?_⟩ (by simp only;omega))));rw[<-he,mB hlt,dA,sN];simp only[cD]
 ·have:i=X.length:=by omega
  subst this;rw[sT] at he;exact cB (by rw[<-he];simp)
def cA (s:List Nat):List Nat:=((s++[101,110,100,32])++cF (dE s))++[10]
def tC (s:List Nat):(cF (dE s)).length<=20:=pB 20 _
def jjb {s:List Nat} (hl:s.length<=1000000):Aa fuel s=some (cA s):=by
 have hb:=rK s;have hd:=tC s;apply Ret.eq;unfold Aa;refine zG ?_;rw[show xB fuel s=Ca s from rfl,jdx (by omega),aO];refine cI ?_;rw[Hw (by omega) (by omega),aO];exact bB (cK (by simp;omega)) (bB (cK (by simp;omega)) (cB rfl))
def jov {s:List Nat} (hl:s.length<=1000000) (hB:∀x∈s,x<256):yP fuel s=some (cA s):=by
 have hb:=rK s;have hd:=tC s;apply Ret.eq;unfold yP;refine zG ?_;rw[jot (by omega) hB,aO,Hu (by omega) (by omega),aO];exact bB (cK (by simp;omega)) (bB (cK (by simp;omega)) (cB rfl))
end X
end Go.Vm
namespace Go.Vm
namespace X
open W Go.RowKit Go.Proofs.Un Go.Proofs.F11
def jdh {x:cW} (hx:OkX x):∀y∈dF x,y<256:=by
 have hv:=hx.vl;have hft:=hx.o.ft;have f0:=hx.f0;have t1:=hx.t1;have n0:=(iS hv.2.2.1 hv.2.2.2).ch;have n1:=(iS (n:=x.2.2.1) (by omega) (by omega)).ch;have n2:=(iS (n:=x.2.2.2) (by omega) (by omega)).ch;have k1:=jlb ⟨hx.o.k1,hx.o.k3⟩;have k2:=jl8 ⟨hv.1,hv.2.1⟩;intro y hy;simp only[dF,jD,aZ,bL,bF,gW,gU] at hy;rcases hy with((((((rfl | rfl) | hy) | rfl) | hy) | rfl) | hy)
 ·exact k1.1
 ·omega
 ·rcases hy with rfl | rfl | hy
  ·exact k2.1
  ·omega
  ·have:=n0 y hy;omega
 ·omega
 ·have:=n1 y hy;omega
 ·omega
 ·have:=n2 y hy;omega
def Jh {n:Int} (h0:0<=n) (h1:n<9223372036854775808):∀y∈cF n,y<256:=λy hy=>by
 have:=sC (u:=n.toNat) (by omega) y hy;omega
def jml {s:List Nat} (hl:s.length<=100) (hb:∀x∈s,x<256):(Go.Vm.W.mkS (some s)).data.toList.map UInt8.toNat=s:=by
 obtain⟨t,e1,e2⟩:=Kr (o:=some s) (by simp only[oH];rw[aP,cK hl]);cases e1;rw[e2];exact Hk hb
def jvj {w h:Nat} (hw:1<=w/\w<=6) (hh:1<=h/\h<=6) {X:List cW} (hX:∀x∈X,OkX x):De (mF fuel) (jS fuel) (w:Int) (h:Int) X=bZ w h X:=by
 have hs:∀x∈X,mF fuel x=some (dF x):=λx hx=>by
  rcases Mj x with⟨_,g⟩ | ⟨g,_⟩
  ·exact g
  ·exact absurd (hX x hx) g
 have hn:∀n:Nat,n<=6->(Go.Vm.W.mkS (jS fuel (n:Int))).data.toList.map UInt8.toNat=cF (n:Int):=λn h=>by
  rw[Hw (by omega) (by omega)];exact jml (eA (Qd (by omega) (by omega)) (by omega)) (Jh (by omega) (by omega))
 unfold De pA Ae bZ;simp only;rw[mC,fY]
 congr 1
 ·simp only[fY,hn w hw.2,hn h hh.2];simp[dD]
 ·clear hw hh hn;induction X with
  | nil=>rfl
  | cons x X ih=>
    rw[lM,fY,dA,sN,ih (λy hy=>hX y (bX _ hy)) λy hy=>hs y (bX _ hy)]
    congr 1
    rw[fY,hs x bY,jml (eA (Bv (hX x bY)) (by omega)) (jdh (hX x bY))];rfl
def j0q {X:List cW} (hX:∀x∈X,OkX x):((X.map λx=>dF x++[10]).flatten).length<=41*X.length:=by
 induction X with
 | nil=>simp
 | cons x X ih=>
   have:=ih λy hy=>hX y (bX _ hy)
   have h2:=Bv (hX x bY);rw[dA,sN,dS,dS,kC,dG];omega
def Pm {w h:Nat} {X:List cW} (hX:∀x∈X,OkX x) (hl:X.length<=1000):(bZ w h X).length<=41100:=by
 have h1:=j0q hX;have d1:(cF (w:Int)).length<=20:=pB 20 _;have d2:(cF (h:Int)).length<=20:=pB 20 _;unfold bZ;rw[dS];have:(dD++32::cF (w:Int)++32::cF (h:Int)++[10]).length<=60:=by simp[dD];omega
 omega
def jvk {w h:Nat} (hw:w<=6) (hh:h<=6) {X:List cW} (hX:∀x∈X,OkX x):∀y∈bZ w h X,y<256:=by
 have d1:=Jh (n:=(w:Int)) (by omega) (by omega);have d2:=Jh (n:=(h:Int)) (by omega) (by omega);intro y hy;unfold bZ at hy;rcases aZ.1 hy with hy | hy
 ·simp only[dD,aZ,bL,gW,gU] at hy;rcases hy with((hy | hy) | hy) | hy
  ·omega
  ·rcases hy with hy | hy
   ·omega
   ·exact d1 y hy
  ·rcases hy with hy | hy
   ·omega
   ·exact d2 y hy
  ·omega
 ·obtain⟨l,hl,hy⟩:=List.mem_flatten.1 hy;obtain⟨x,hx,rfl⟩:=bU.1 hl;rcases aZ.1 hy with hy | hy
  ·exact jdh (hX x hx) y hy
  ·simp at hy;omega
def jyf {w h:Nat} {T:List aW} (t:Tab w h T) (hw:1<=w/\w<=6) (hh:1<=h/\h<=6) {cr:List bQ} (hcr:PatOK T cr):
  jaa fuel ((w:Int),((h:Int),cr))=some (cA (bZ w h (fD T w h (bP cr))),0)/\Ur fuel ((w:Int),((h:Int),cr))=some (cA (bZ w h (fD T w h (bP cr)))):=by
 have hX:=Gp t hw hh hcr;have hl:=(yS t hw hh hcr).len;have hof:=Xk t hw hh hcr;have hrb:=jou t hw hh hcr;generalize fD T w h (bP cr)=X at hX hl hof hrb ⊢;have hbl:=Pm (w:=w) (h:=h) hX hl;have hbb:=jvk hw.2 hh.2 hX;have hsl:=tC (bZ w h X);constructor
 ·show Dp (yT fuel) (mF fuel) (jS fuel) (Aa fuel) ((w:Int),((h:Int),cr))=_;unfold Dp;rw[hof,aO];have hit:∀n:Nat,n<=6->oH (jS fuel (n:Int))=true:=λn hn=>by
   rw[Hw (by omega) (by omega)];have:(cF (n:Int)).length<=20:=pB 20 _;simp only[oH];rw[aP,cK (by omega)]
  have hok:Sm (mF fuel) (jS fuel) (w:Int) (h:Int) X=true:=by
   unfold Sm;rw[hit w hw.2,hit h hh.2,aP,cK (by omega),kH,kH,sV,bS];intro x hx;rcases Mj x with⟨_,g⟩ | ⟨g,_⟩
   ·rw[g];have:=Bv (hX x hx);simp only[oH];rw[aP,cK (by omega)]
   ·exact absurd (hX x hx) g
  refine(fG rfl).trans ?_;simp only;rw[hok,aB,jvj hw hh hX,jjb (by omega),aO,aP,pS (by simp[cA];omega)];rfl
 ·apply Ret.eq;unfold Ur;simp only;rw[hrb,aO,jov (by omega) hbb];exact cB rfl
end X
end Go.Vm
namespace Go.Vm
namespace X
open W
def jxo:(List.range 256).all (λd=>d==0||Nat.gcd 65521 d==1)=true:=by decide +kernel
def uS {d:Nat} (h0:0<d) (h:d<256):Nat.gcd 65521 d=1:=by
 have:=bS.1 jxo d (jI.2 h);simp only[kD,beq_iff_eq] at this;omega
end X
end Go.Vm
namespace Go.Vm
namespace X
open W Go.RowKit
set_option maxRecDepth 100000
def j2g {w word:List Nat} {sum:Int} (hw:∀x∈w,x<256) (h:dY w word 1=some [sum]):∃u:Nat,sum=(u:Int)/\u<1000000000/\w=word++32::bV 20 u:=by
 have hj:=jrp hw;have hb:=jfd w;unfold dY at h;split at h
 ·rename_i a T e;split at h
  ·rename_i g;obtain⟨g1,g2⟩:=g
   match T,g2 with
   | [v],_=>
     rw[e] at hj hb;simp only[iP] at h;cases e2:kU v with
     | none=>rw[e2] at h;cases h
     | some u=>
       rw[e2] at h;obtain⟨n1,n2,n3⟩:=xY.1 e2;have h3:(u:Int)=sum:=by simpa using h
       refine⟨u,h3.symm,n2,?_⟩;have h4:=tQ (w0:=a) (ws:=[]) (w:=v) (hb v (by simp));rw[Eg (hb a (by simp))] at h4;have h5:pG ([a]++[v]) [32]=w:=hj;rw[<-h5,h4,g1,n1]
  ·cases h
 ·cases h
end X
end Go.Vm
namespace Go.Vm
namespace X
open W Go.RowKit Go.Proofs.Un
def Qb (r:List Nat):∀Ls:List (List Nat),(∀l∈Ls,10∉l)->aY 10 ((Ls.map λl=>l++[10]).flatten++r)=Ls++aY 10 r
 | [],_=>rfl
 | l::Ls,h=>by
   have ih:=Qb r Ls λx hx=>h x (bX _ hx)
   rw[dA,sN,show((l++[10])++(Ls.map λl=>l++[10]).flatten)++r=l++10::((Ls.map λl=>l++[10]).flatten++r) by simp,Dk (h l bY),ih];rfl
def qK {n:Int} (h0:0<=n) (h1:n<9223372036854775808):∀y∈cF n,48<=y/\y<=57:=λy hy=>sC (u:=n.toNat) (by omega) y hy
def Se {n:Int} (h0:0<=n) (h1:n<1000000000):kU (cF n)=some n.toNat:=by
 refine xY.2 ⟨rfl,by omega,?_⟩;unfold cF;rw[zX (by omega),dM,Lib.decDigits_length];have h2:Lib.nDigits n.toNat<=9:=by
  refine sO λg=>?_
  have h3:∀u:Nat,u<1000000000->Lib.nDigits u<=9:=λu hu=>by
   rcases(by omega:u<10\/10<=u/\u<100\/100<=u/\u<1000\/1000<=u/\u<10000\/10000<=u/\u<100000\/100000<=u/\u<1000000\/1000000<=u/\u<10000000\/10000000<=u/\u<100000000\/100000000<=u) with g | g | g | g | g | g | g | g | g
   ·rw[Lib.nDigits_small g];omega
   ·rw[Lib.nDigits_unique 1 u (by omega) (by omega)];omega
   ·rw[Lib.nDigits_unique 2 u (by omega) (by omega)];omega
   ·rw[Lib.nDigits_unique 3 u (by omega) (by omega)];omega
   ·rw[Lib.nDigits_unique 4 u (by omega) (by omega)];omega
   ·rw[Lib.nDigits_unique 5 u (by omega) (by omega)];omega
   ·rw[Lib.nDigits_unique 6 u (by omega) (by omega)];omega
   ·rw[Lib.nDigits_unique 7 u (by omega) (by omega)];omega
   ·rw[Lib.nDigits_unique 8 u (by omega) (by omega)];omega
  exact g (h3 _ (by omega))
 exact h2
def jro {a b c:List Nat} (h:∀x∈[a,b,c],∀y∈x,y<256/\y≠32):cY (a++32::b++32::c) [32]=[a,b,c]:=by
 have hb:∀x∈[a,b,c],∀y∈x,y<256:=λx hx y hy=>(h x hx y hy).1
 have h1:=Rh (w:=a) (ws:=[b,c]) h;have e1:=tQ (w0:=a) (ws:=[b]) (w:=c) (hb c (by simp));have e2:=tQ (w0:=a) (ws:=[]) (w:=b) (hb b (by simp));rw[Eg (hb a (by simp))] at e2;have e3:pG [a,b,c] [32]=a++32::b++32::c:=by
  rw[show [a,b,c]=(a::[b])++[c] from rfl,e1,show a::[b]=([a]++[b]) from rfl,e2]
 rw[e3] at h1;exact h1
def kaq {a b:List Nat} (h:∀x∈[a,b],∀y∈x,y<256/\y≠32):cY (a++32::b) [32]=[a,b]:=by
 have hb:∀x∈[a,b],∀y∈x,y<256:=λx hx y hy=>(h x hx y hy).1
 have h1:=Rh (w:=a) (ws:=[b]) h;have e2:=tQ (w0:=a) (ws:=[]) (w:=b) (hb b (by simp));rw[Eg (hb a (by simp))] at e2;rw[show a::[b]=([a]++[b]) from rfl,e2] at h1;exact h1
def jkc {w h:Nat} (hw:w<=1000000) (hh:h<=1000000):dY (dD++32::cF (w:Int)++32::cF (h:Int)) dD 2=some [(w:Int),(h:Int)]:=by
 have d1:=qK (n:=(w:Int)) (by omega) (by omega);have d2:=qK (n:=(h:Int)) (by omega) (by omega);have hwd:=jro (a:=dD) (b:=cF (w:Int)) (c:=cF (h:Int)) (λx hx y hy=>by
  simp only[bL,gW,gU] at hx;rcases hx with rfl | rfl | rfl
  ·simp only[dD,bL,gW,gU] at hy;omega
  ·have:=d1 y hy;omega
  ·have:=d2 y hy;omega)
 unfold dY;rw[hwd];simp only[dG,iT,Bo,bR,iP];rw[Se (by omega) (by omega),Se (by omega) (by omega)];simp
def Zs {n:Int} (h0:0<=n) (h1:n<1000000000):dY (bI++32::cF n) bI 1=some [n]:=by
 have d1:=qK (n:=n) (by omega) (by omega);have hwd:=kaq (a:=bI) (b:=cF n) (λx hx y hy=>by
  simp only[bL,gW,gU] at hx;rcases hx with rfl | rfl
  ·simp only[bI,bL,gW,gU] at hy;omega
  ·have:=d1 y hy;omega)
 unfold dY;rw[hwd];simp only[dG,iT,Bo,bR,iP];rw[Se h0 h1];simp;omega
def jdd {x:cW} (hx:OkX x):dY (dF x) bI 1=none:=by
 unfold dY;rw[jpq hx];simp only[dG,iT];rw[aD λg=>by have:=g.2;omega]
def jph {x:cW} (hx:OkX x):oJ (dF x)=some x:=by
 unfold oJ;rw[j41 hx];simp
def joh (sh:Int×Int) (sum:Int) (h0:0<=sum) (h1:sum<1000000000):∀(X:List cW),(∀x∈X,OkX x)->∀(i:Nat),1<=i->∀(l:List cW) (body:List Nat),
  cU i sh l body (X.map dF++[bI++32::cF sum,[]])=.inr (sh,(l++X,(sum,body++(X.map λx=>dF x++[10]).flatten)))
 | [],_,i,hi,l,body=>by
   rw[nO,dZ,cU,aD (by omega),Zs h0 h1];simp
 | x::X,hX,i,hi,l,body=>by
   have ih:=joh sh sum h0 h1 X (λy hy=>hX y (bX _ hy)) (i+1) (by omega) (l++[x]) (body++(dF x++[10]));have hx:=hX x bY;obtain⟨v,ws,e⟩:∃v ws,X.map dF++[bI++32::cF sum,[]]=v::ws:=by
    cases X with
    | nil=>exact⟨_,_,rfl⟩
    | cons y Y=>exact⟨_,_,rfl⟩
   rw[dA,eW,e,cU,aD (by omega),jdd hx];simp only;rw[aD (by omega),jph hx];simp only;rw[<-e,ih];simp
def gL (w h:Nat):List Nat:=dD++32::cF (w:Int)++32::cF (h:Int)
def jdg {x:cW} (hx:OkX x):10∉dF x:=by
 have hv:=hx.vl;have hft:=hx.o.ft;have f0:=hx.f0;have t1:=hx.t1;have n0:=(iS hv.2.2.1 hv.2.2.2).ch;have n1:=(iS (n:=x.2.2.1) (by omega) (by omega)).ch;have n2:=(iS (n:=x.2.2.2) (by omega) (by omega)).ch;have k1:iQ x.1≠10:=by
  have hk:x.1=1\/x.1=2\/x.1=3:=by have:=hx.o.k1;have:=hx.o.k3;omega
  unfold iQ;rcases hk with e | e | e<;>rw[e]<;>decide
 have k2:iG x.2.1.1≠10:=by
  have hk:x.2.1.1=1\/x.2.1.1=2\/x.2.1.1=3\/x.2.1.1=4:=by have:=hx.o.l1;have:=hx.o.l4;omega
  unfold iG;rcases hk with e | e | e | e<;>rw[e]<;>decide
 intro hy;simp only[dF,jD,aZ,bL,bF,gW,gU] at hy;rcases hy with((((((hy | hy) | hy) | hy) | hy) | hy) | hy)
 ·exact k1 hy.symm
 ·omega
 ·rcases hy with hy | hy | hy
  ·exact k2 hy.symm
  ·omega
  ·have:=n0 10 hy;omega
 ·omega
 ·have:=n1 10 hy;omega
 ·omega
 ·have:=n2 10 hy;omega
def jjm {w h:Nat} (hw:w<=1000000) (hh:h<=1000000) {X:List cW} (hX:∀x∈X,OkX x):aY 10 (cA (bZ w h X))=gL w h::(X.map dF++[bI++32::cF (dE (bZ w h X)),[]]):=by
 have d1:=qK (n:=(w:Int)) (by omega) (by omega);have d2:=qK (n:=(h:Int)) (by omega) (by omega);have hb:=rK (bZ w h X);have d3:=qK (n:=dE (bZ w h X)) (by omega) (by omega);obtain⟨S,hS⟩:∃S,S=cF (dE (bZ w h X)):=⟨_,rfl⟩
 have e:cA (bZ w h X)=(((gL w h::(X.map dF++[bI++32::S])).map λl=>l++[10]).flatten)++[]:=by
  unfold cA;rw[<-hS];unfold bZ gL bI;simp[lO,Function.comp_def]
 rw[e,Qb [] _ λl hl=>?_,<-hS]
 ·simp[aY]
 ·rcases bL.1 hl with rfl | hl
  ·intro hy;simp only[gL,dD,aZ,bL,gW,gU] at hy;rcases hy with(hy | hy | hy) | hy | hy
   ·omega
   ·omega
   ·have:=d1 10 hy;omega
   ·omega
   ·have:=d2 10 hy;omega
  ·rcases aZ.1 hl with hl | hl
   ·obtain⟨x,hx,rfl⟩:=bU.1 hl;exact jdg (hX x hx)
   ·rw[bF.1 hl];intro hy;simp only[bI,aZ,bL,gW,gU] at hy;rcases hy with hy | hy | hy
    ·omega
    ·omega
    ·rw[hS] at hy;have:=d3 10 hy;omega
def jyq {w h:Nat} (hw:w<=1000000) (hh:h<=1000000) {X:List cW} (hX:∀x∈X,OkX x):cU 0 (0,0) [] [] (aY 10 (cA (bZ w h X)))=.inr (((w:Int),(h:Int)),(X,(dE (bZ w h X),bZ w h X))):=by
 have hb:=rK (bZ w h X);rw[jjm hw hh hX];obtain⟨v,ws,e⟩:∃v ws,X.map dF++[bI++32::cF (dE (bZ w h X)),[]]=v::ws:=by
  cases X with
  | nil=>exact⟨_,_,rfl⟩
  | cons y Y=>exact⟨_,_,rfl⟩
 rw[e,cU];simp only[bR];rw[show gL w h=dD++32::cF (w:Int)++32::cF (h:Int) from rfl,jkc hw hh];simp only;rw[<-e,joh _ _ hb.1 (by omega) X hX 1 (aU _)];simp[bZ]
end X
end Go.Vm
namespace Go.Vm
namespace X
open W
structure EndAt (t:List Nat) (q:Nat):Prop where
 e:t[q]?=some 101
 n:t[q+1]?=some 110
 d:t[q+2]?=some 100
 s:t[q+3]?=some 32
 dg:∀j c,q+4<=j->t[j]?=some c->c<=57
def EndAt.lt {s t:List Nat} {q p i:Nat} (hs:EndAt s q) (ht:EndAt t p) (hd:∀j,j≠i->s[j]?=t[j]?):¬q<p:=by
 intro h;have no:∀ {j c},q+1<=j->s[j]?=some c->c≠101:=λ{j c} hj hc=>by
  rcases(by omega:j=q+1\/j=q+2\/j=q+3\/q+4<=j) with e | e | e | e
  ·rw[e,hs.n] at hc;cases hc;decide
  ·rw[e,hs.d] at hc;cases hc;decide
  ·rw[e,hs.s] at hc;cases hc;decide
  ·have:=hs.dg j c e hc;omega
 have no2:∀ {j c},q+2<=j->s[j]?=some c->c≠110:=λ{j c} hj hc=>by
  rcases(by omega:j=q+2\/j=q+3\/q+4<=j) with e | e | e
  ·rw[e,hs.d] at hc;cases hc;decide
  ·rw[e,hs.s] at hc;cases hc;decide
  ·have:=hs.dg j c e hc;omega
 by_cases hi:p=i
 ·have h1:=hd (p+1) (by omega);rw[ht.n] at h1;exact no2 (by omega) h1 rfl
 ·have h1:=hd p hi;rw[ht.e] at h1;exact no (by omega) h1 rfl
def ji8 {B D:List Nat} (hD:∀y∈D,48<=y/\y<=57):EndAt (B++((bI++32::D)++[10])) B.length:=by
 have at_:∀j,(B++((bI++32::D)++[10]))[B.length+j]?=((bI++32::D)++[10])[j]?:=λj=>by
  rw[Bc (by omega)]
  congr 1;omega
 refine⟨?_,?_,?_,?_,λj c hj hc=>?_⟩
 ·exact at_ 0
 ·exact at_ 1
 ·exact at_ 2
 ·exact at_ 3
 ·obtain⟨m,rfl⟩:∃m,j=B.length+ (m+4):=⟨j-B.length-4,by omega⟩
  rw[at_] at hc;have hc:(D++[10])[m]?=some c:=hc;have:=rC hc;simp only[aZ,bF] at this;rcases this with g | g
  ·have:=hD c g;omega
  ·omega
def gP (c:Nat) (l:List Nat):List Nat:=(aY c l).headD []
def jiq (c:Nat) (l:List Nat):aY c l=gP c l::(aY c l).tail:=by
 unfold gP;cases h:aY c l with
 | nil=>exact absurd h (uU c l)
 | cons w ws=>rfl
def jxr {c x:Nat} (hx:x≠c) (l:List Nat):aY c (x::l)=(x::gP c l)::(aY c l).tail:=by
 rw[aY,aD hx,jiq c l];rfl
def jxq {c:Nat} (l:List Nat):aY c (c::l)=[]::aY c l:=by rw[aY,aK rfl]
def jka {c x:Nat} (hx:x≠c) (l:List Nat):gP c (x::l)=x::gP c l:=by
 unfold gP;rw[jxr hx];rfl
def jj9 {c:Nat} (l:List Nat):gP c (c::l)=[]:=by unfold gP;rw[jxq];rfl
end X
end Go.Vm
namespace Go.Vm
namespace X
open W Go.RowKit Go.Proofs.Un
def Dq (B:List Nat):cA B=B++((bI++32::bV 20 (dE B).toNat)++[10]):=by
 unfold cA cF bI;simp
def j5q {s:List Nat} (hB:∀x∈s,x<256) {sh:Int×Int} {l:List cW} {sum:Int} {body:List Nat} (h:cU 0 (0,0) [] [] (aY 10 s)=.inr (sh,(l,(sum,body)))):
  ∃u:Nat,sum=(u:Int)/\u<1000000000/\s=body++((bI++32::bV 20 u)++[10]):=by
 obtain⟨lw,h1,h2⟩:=joj h;obtain⟨u,e1,e2,e3⟩:=j2g (λx hx=>hB x (by rw[h2];simp[hx])) h1;exact⟨u,e1,e2,by rw[h2,e3]⟩
def jxz {s:List Nat} (hs:s.length<=65536) (hp:∀w∈aY 10 s,w.length<=1000) {n:Int} (hr:cU 0 (0,0) [] [] (aY 10 s)=.inl n):jA fuel s=some (zS n)/\0<n:=by
 have hdv:=Zi (s:=s) (by omega) hp;have hn:=Ug _ _ _ _ _ _ hr;rw[hr] at hdv;refine⟨?_,by omega⟩;unfold jA;refine(gO (by omega)).trans ?_;rw[hdv,aO];exact fG (show(0:Int)<n by omega)
def ji9 {B:List Nat} (hB:∀x∈B,x<256):∀x∈cA B,x<256:=by
 have b1:=rK B;have dB:∀z∈bV 20 (dE B).toNat,48<=z/\z<=57:=sC (by omega);intro x hx;rw[Dq] at hx;simp only[bI,aZ,bL,gW,gU] at hx;rcases hx with hx | hx
 ·exact hB x hx
 ·rcases hx with((hx | hx | hx) | hx | hx) | hx
  ·omega
  ·omega
  ·omega
  ·omega
  ·have:=dB x hx;omega
  ·omega
def jny {w:List Nat} {x:cW} (h:w.length<=1000) (e:oJ w=some x):OkX x/\w=dF x:=by
 obtain⟨r,h1,h2⟩:=jnw h;unfold oJ at e;rw[h1] at e;simp only at e;rcases h2 with rfl | ⟨h3,h4,h5⟩
 ·rw[aD (by simp)] at e;cases e
 ·rw[aK h3] at e;cases e;rcases Mj r.1 with⟨g1,g2⟩ | ⟨_,g2⟩
  ·rw[g2] at h4;cases h4;exact⟨g1,rfl⟩
  ·rw[g2] at h4;cases h4;exact absurd rfl h5
def j2h {w word:List Nat} {ns:List Int} (hw:∀x∈w,x<256) (h:dY w word 2=some ns):∃u v:Nat,ns=[(u:Int),(v:Int)]/\u<1000000000/\v<1000000000/\w=word++32::bV 20 u++32::bV 20 v:=by
 have hj:=jrp hw;have hb:=jfd w;unfold dY at h;split at h
 ·rename_i a T e;split at h
  ·rename_i g;obtain⟨g1,g2⟩:=g
   match T,g2 with
   | [p,q],_=>
     rw[e] at hj hb;simp only[iP] at h;cases e1:kU p with
     | none=>rw[e1] at h;cases h
     | some u=>
       cases e2:kU q with
       | none=>rw[e1,e2] at h;cases h
       | some v=>
         rw[e1,e2] at h;obtain⟨n1,n2,n3⟩:=xY.1 e1;obtain⟨m1,m2,m3⟩:=xY.1 e2;have h3:[(u:Int),(v:Int)]=ns:=by simpa using h
         refine⟨u,v,h3.symm,n2,m2,?_⟩;have h4:=tQ (w0:=a) (ws:=[p]) (w:=q) (hb q (by simp));have h5:=tQ (w0:=a) (ws:=[]) (w:=p) (hb p (by simp));rw[Eg (hb a (by simp))] at h5;have h6:pG (([a]++[p])++[q]) [32]=w:=hj;rw[<-h6,show([a]++[p]:List (List Nat))=a::[p] from rfl,h4,show a::[p]=([a]++[p]:List (List Nat)) from rfl,h5,g1,n1,m1]
  ·cases h
 ·cases h
def jog:∀(P:List (List Nat)) (i:Nat),1<=i->(∀w∈P,w.length<=1000)->∀(sh sh':Int×Int) (l l':List cW) (body body':List Nat) (sum:Int),cU i sh l body P=.inr (sh',(l',(sum,body')))->
  ∃X,l'=l++X/\(∀x∈X,OkX x)/\sh'=sh/\body'=body++(X.map λx=>dF x++[10]).flatten
 | [],i,hi,hp,sh,sh',l,l',body,body',sum,h=>by rw[cU] at h;cases h
 | [e],i,hi,hp,sh,sh',l,l',body,body',sum,h=>by rw[cU] at h;cases h
 | w::v::ws,i,hi,hp,sh,sh',l,l',body,body',sum,h=>by
   rw[cU,aD (by omega)] at h;split at h
   ·split at h
    ·simp only[qha,aM] at h;obtain⟨e1,e2,e3,e4⟩:=h;exact⟨[],by rw[<-e2];simp,(λx hx=>by cases hx),e1.symm,by rw[<-e4];simp⟩
    ·cases h
   ·rw[aD (by omega)] at h;split at h
    ·cases h
    ·rename_i x hx;obtain⟨X,e1,e2,e3,e4⟩:=jog (v::ws) (i+1) (by omega) (λy hy=>hp y (bX _ hy)) _ _ _ _ _ _ _ h;obtain⟨g1,g2⟩:=jny (hp w bY) hx;refine⟨x::X,by rw[e1];simp,λy hy=>?_,e3,?_⟩
     ·rcases bL.1 hy with rfl | hy
      ·exact g1
      ·exact e2 y hy
     ·rw[e4,dA,sN,g2];simp
def jok {s:List Nat} (hB:∀x∈s,x<256) (hp:∀w∈aY 10 s,w.length<=1000) {sh:Int×Int} {l:List cW} {sum:Int} {body:List Nat} (h:cU 0 (0,0) [] [] (aY 10 s)=.inr (sh,(l,(sum,body)))):
  ∃u v z:Nat,sh=((u:Int),(v:Int))/\u<1000000000/\v<1000000000/\(∀x∈l,OkX x)/\body=bZ u v l/\sum=(z:Int)/\z<1000000000/\s=body++((bI++32::bV 20 z)++[10])/\∃ws,aY 10 s=(dD++32::bV 20 u++32::bV 20 v)::ws:=by
 obtain⟨z,e1,e2,e3⟩:=j5q hB h;have hm:=Dl 10 s;generalize hP:aY 10 s=P at h hp hm
 match P,h,hp,hP,hm with
 | [],h,_,_,_=>rw[cU] at h;cases h
 | [e],h,_,_,_=>rw[cU] at h;cases h
 | w::v::ws,h,hp,hP,hm=>
   rw[cU] at h;simp only[bR] at h;split at h
   ·cases h
   ·rename_i ns hns;obtain⟨p,q,f1,f2,f3,f4⟩:=j2h (λx hx=>hB x (hm w bY x hx)) hns;obtain⟨X,g1,g2,g3,g4⟩:=jog (v::ws) 1 (aU _) (λy hy=>hp y (bX _ hy)) _ _ _ _ _ _ _ h;refine⟨p,q,z,?_,f2,f3,?_,?_,e1,e2,e3,v::ws,by rw[f4]⟩
    ·rw[g3,f1];rfl
    ·rw[g1];exact g2
    ·rw[g4,g1,f4];simp[bZ,cF]
def kaa {w h:Nat} {T:List aW} (t:Tab w h T) (hw:w<=6) (hh:h<=6) {x:cW} (h0:(gA T x).2=0):(gA T x).1≠[]:=by
 unfold gA at h0 ⊢;by_cases ho:OrdP x
 ·rw[aK ho] at h0 ⊢;have hft:=ho.ft;cases hu:kM T x.2.1 x.2.2.2 x.2.2.1 with
  | none=>rw[hu] at h0;cases h0
  | some u=>
    rw[Co (t.tb hw hh),aD (by omega)] at hu;cases hl:gQ T x.2.1 x.2.2.1 with
    | none=>rw[hl] at hu;cases hu
    | some y=>
      rw[hl] at hu;simp only at hu;split at hu
      ·cases hu
      ·obtain⟨v,_,rfl⟩:=cX.1 hu;simp
 ·rw[aD ho] at h0;cases h0
def jgq {k:Int}:∀(us:List bW) (out out':List bQ),lD k out us=some out'->out'.length=out.length+us.length
 | [],out,out',h=>by cases h;rfl
 | v::us,out,out',h=>by
   simp only[lD] at h;split at h
   ·have:=jgq us _ _ h;simp only[dS,dG,iT] at this ⊢;omega
   ·cases h
def jn2 {T:List aW}:∀(l:List cW) (i:Int) (out out':List bQ),iL T i out l=.inl out'->out'.length=out.length+ (l.map λs=>(gA T s).1.length).sum
 | [],i,out,out',h=>by unfold iL at h;cases h;simp
 | x::l,i,out,out',h=>by
   unfold iL at h;split at h
   ·split at h
    ·cases h
    ·rename_i o ho;have h1:=jn2 l _ _ _ h;have h2:=jgq _ _ _ ho;rw[dA,List.sum_cons];omega
   ·cases h
def jih:∀(X:List cW) (l:List cW) (i:Nat),i<=X.length->iK X i l=none->∃Y,X.drop i=l++Y
 | X,[],i,hi,h=>⟨X.drop i,rfl⟩
 | X,y::r,i,hi,h=>by
   rw[iK] at h;split at h
   ·rename_i g;have hlt:i<X.length:=Nat.lt_of_not_le λq=>by rw[tW q] at g;cases g
    obtain⟨Y,e⟩:=jih X r (i+1) hlt h;rw[dK hlt] at g;injection g with g;exact⟨Y,by rw[mB hlt,e,g];rfl⟩
   ·cases h
def ju6 {w h:Nat} {T:List aW} (t:Tab w h T) (hw:1<=w/\w<=6) (hh:1<=h/\h<=6) {l:List cW} {cr:List bQ} (hcr:PatOK T cr) (hpr:pP T w h l=(((w:Int),((h:Int),cr)),(0,0)))
  (hc:iK (fD T w h (bP cr)) 0 l=none):l=fD T w h (bP cr):=by
 have hso:=yS t hw hh hcr;generalize fD T w h (bP cr)=X at hso hc ⊢;obtain⟨Y,e⟩:=jih X l 0 (fM _) hc;rw[fZ] at e;subst e;have h1:(l.map λs=>(gA T s).1.length).sum=cr.length:=by
  unfold pP at hpr;cases hp:iL T 0 [] l with
  | inr r=>rw[hp] at hpr;simp only[aM] at hpr;omega
  | inl out=>
    rw[hp] at hpr;have ho:=Sr l 0 [] out Ar hp;have h2:=jn2 l 0 [] out hp;have h3:=(Qn t ho).length_eq;simp only[aM] at hpr;rw[hpr.1.2.2] at h3;simp at h2;omega
 have h2:=hso.sum;rw[fY,List.sum_append,h1] at h2;cases Y with
 | nil=>simp
 | cons y Y=>
   exfalso;have h3:=kaa t hw.2 hh.2 (hso.un y (by simp));have h4:0< (gA T y).1.length:=qf0.2 h3;rw[dA,List.sum_cons] at h2;omega
def ju1 {s:List Nat} (hB:∀x∈s,x<256) (hp:∀w∈aY 10 s,w.length<=1000) {r:uL} (hd:Dec s r) (h0:r.2.2=0):
  ∃(w h:Nat) (T:List aW) (cr:List bQ),Tab w h T/\(1<=w/\w<=6)/\(1<=h/\h<=6)/\PatOK T cr/\r=(((w:Int),((h:Int),cr)),(0,0))/\s=cA (bZ w h (fD T w h (bP cr))):=by
 cases hd with
 | bad n _ h=>cases h0
 | sum sh l sum body h h1=>cases h0
 | sheet sh l sum body h h1 hv=>cases h0
 | pat w h l sum body hr j er j0 h1=>exact absurd h0 h1
 | cmp w h T t hw hh l sum body hr h1 cr hcr hpr=>
   cases hc:iK (fD T w h (bP cr)) 0 l with
   | some m=>rw[hc] at h0;cases h0
   | none=>
     have hl:=ju6 t hw hh hcr hpr hc;obtain⟨u,v,z,e1,e2,e3,e4,e5,e6,e7,e8,_⟩:=jok hB hp hr;simp only[aM] at e1;have hu:u=w:=by omega
     have hv:v=h:=by omega
     subst hu;subst hv;refine⟨u,v,T,cr,t,hw,hh,hcr,by simp[Di],?_⟩;rw[e8,Dq,<-hl,<-e5];have:z=(dE body).toNat:=by omega
     rw[this]
set_option maxRecDepth 100000
def Qa (X:List cW):∀(l:List cW) (i:Nat),X.drop i=l->iK X i l=none
 | [],_,_=>rfl
 | y::l,i,h=>by
   have hi:i<X.length:=Nat.lt_of_not_le λg=>by rw[sP g] at h;cases h
   rw[mB hi] at h;injection h with h1 h2;rw[iK,dK hi,h1,aK rfl];exact Qa X l (i+1) h2
def jyp {w h:Nat} (hw:w<=1000000) (hh:h<=1000000) {X:List cW} (hX:∀x∈X,OkX x):∀l∈aY 10 (cA (bZ w h X)),l.length<=1000:=by
 rw[jjm hw hh hX];have d1:(cF (w:Int)).length<=20:=pB 20 _;have d2:(cF (h:Int)).length<=20:=pB 20 _;have d3:=tC (bZ w h X);intro l hl;rcases bL.1 hl with rfl | hl
 ·simp[gL,dD];omega
 ·rcases aZ.1 hl with hl | hl
  ·obtain⟨x,hx,rfl⟩:=bU.1 hl;have:=Bv (hX x hx);omega
  ·simp only[bL,gW,gU] at hl;rcases hl with rfl | rfl
   ·simp[bI];omega
   ·simp
def jx0 {w h:Nat} {T:List aW} (t:Tab w h T) (hw:1<=w/\w<=6) (hh:1<=h/\h<=6) {cr:List bQ} (hcr:PatOK T cr):jA fuel (cA (bZ w h (fD T w h (bP cr))))=some (((w:Int),((h:Int),cr)),(0,0)):=by
 have hX:=Gp t hw hh hcr;have hso:=yS t hw hh hcr;have hof:=Xk t hw hh hcr;have hcl:=hcr.ok.len t hw.2 hh.2;have hc:=Bw hw hh;have hpo:=jfv t hw hh (l:=fD T w h (bP cr)) (by have:=hso.len;omega);rw[hso.pat] at hpo;have hl:=hso.len;generalize fD T w h (bP cr)=l at hX hof hpo hl ⊢;have hbl:=Pm (w:=w) (h:=h) hX hl;have hsl:=tC (bZ w h l);have hrd:=jyq (w:=w) (h:=h) (by omega) (by omega) hX;have hpc:=jyp (w:=w) (h:=h) (by omega) (by omega) hX;obtain⟨body,hbd⟩:∃body,body=bZ w h l:=⟨_,rfl⟩
 rw[<-hbd] at hrd hbl hsl hpc ⊢;have hsz:(cA body).length<=65536:=by simp[cA];omega
 have hdv:=Zi (s:=cA body) (by omega) hpc;rw[hrd] at hdv;have htk:((cA body).drop 0).take ((body.length:Int)).toNat=body:=by simp[cA]
 have hsb2:=rK body;have hbs:body.length<=(cA body).length:=by simp[cA]
 have e1:xB fuel body=some (dE body):=jdx (by omega);obtain⟨X,hXl⟩:∃X,X=l:=⟨_,rfl⟩
 have hcmp:=Qa l l 0 rfl;rw[show(some (((w:Int),((h:Int),cr)),((0:Int),(0:Int))):Option uL)=some (Di ((w:Int),((h:Int),cr)) (iK l 0 l)) by rw[hcmp];rfl];generalize cA body=s at hsz hdv htk hbs;apply Ret.eq;unfold jA;refine aS (λg=>absurd g (by omega)) λ_=>?_
 rw[hdv,aO];simp only[vK];refine aS (λg=>absurd g (by omega)) λ_=>bB (fH.2 ⟨by omega,by omega,by omega⟩) ?_
 rw[htk,e1,aO];refine cI (aS (λg=>absurd rfl g) λ_=>?_);rw[hc,aO];refine aS (λg=>absurd rfl g) λ_=>?_
 rw[hpo,aO];refine aS (λg=>absurd rfl g) λ_=>?_
 rw[hof,aO];refine gZ (λp:Int×(Int×(Int×Unit))=>∃i:Nat,p=((i:Int),(0,(0,())))/\i<=l.length) (λp=>l.length-p.1.toNat) ?_ fuel (0,(0,(0,()))) ⟨0,rfl,fM _⟩ (by simp only[fuel];omega);rintro _ rec ⟨i,rfl,hi⟩ ih;simp only at ih ⊢;refine aS (λhlt=>?_) λhge=>?_
 ·have hlt:i<l.length:=by omega
  refine kN (aS (λg=>absurd g (by omega)) λg=>kN (iI (λg2=>?_) λg2=>?_))
  ·exfalso;simp at g2
  ·exact cI (ih _ ⟨i+1,by simp,hlt⟩ (by simp only;omega))
 ·exact bB (by simp[mN]) (cB (by rw[hcmp];rfl))
def jxt {e:List Nat} (h:e.length<=1000000000) (hn:∀A,e≠A++[10]):oT fuel (e,[10])=some (e,false):=by
 apply Ret.eq;unfold oT;simp only;refine aS (λg=>?_) λ_=>cB rfl
 have g:1<=e.length:=by simp at g;omega
 refine bB (cM (by simp;omega) (by simp;omega)) (bB (fH.2 ⟨by simp;omega,by simp;omega,by omega⟩) (iI (λ_=>cB rfl) λg2=>?_));exfalso;have e1:(((e.length:Int)-(([10]:List Nat).length:Int))).toNat=e.length-1:=by simp
 have g3:((e.drop (((e.length:Int)-(([10]:List Nat).length:Int))).toNat).take (e.length-(((e.length:Int)-(([10]:List Nat).length:Int))).toNat))=[10]:=by simpa using g2
 rw[e1,iU (by rw[tZ];exact aU _)] at g3;exact hn (e.take (e.length-1)) (by rw[<-g3,Bi])
def jbe {c:Nat}:∀ {l:List Nat},c∉l->lX c l= -1
 | [],_=>rfl
 | x::l,h=>by
   have h1:=jbe λg=>h (bX _ g)
   have h2:x≠c:=λe=>h (e▸bY)
   rw[lX,h1,aD (by omega),aD h2]
def jlg {c:Nat} {w:List Nat} (hw:c∉w):∀A:List Nat,lX c (A++c::w)=A.length
 | []=>by rw[dZ,lX,jbe hw];simp
 | x::A=>by
   rw[eW,lX,jlg hw A,aK (by omega)];simp
def j0a {s:List Nat} (h:s.length<=1000000000):jdv fuel (s,[10])=some (lX 10 s):=by
 show Ej (s,[10])=_;unfold Ej;simp only;rw[aP,cK h];rfl
inductive MendB (s:List Nat):List Nat->Prop
 | no (h:∀A,s≠A++[10]):MendB s s
 | yes (A w:List Nat) (e:s=A++(w++[10])) (hA:A=[]\/∃A',A=A'++[10]) (hw:10∉w) (body:List Nat) (hb:body=if(dY w bI 1).isSome=true then A else s):MendB s body
def MendB.len {s b:List Nat} (h:MendB s b):b.length<=s.length:=by
 cases h with
 | no h=>exact aU _
 | yes A w e hA hw _ hb=>
   rw[hb];split
   ·rw[e];simp
   ·exact aU _
def MendB.pre {s b:List Nat} (h:MendB s b):∃R,s=b++R:=by
 cases h with
 | no h=>exact⟨[],by simp⟩
 | yes A w e hA hw _ hb=>
   rw[hb];split
   ·exact⟨_,e⟩
   ·exact⟨[],by simp⟩
def jli:∀s:List Nat,∃A w,s=A++w/\10∉w/\(A=[]\/∃A',A=A'++[10])
 | []=>⟨[],[],rfl,by simp,.inl rfl⟩
 | x::s=>by
   obtain⟨A,w,e,hw,hA⟩:=jli s;rcases hA with rfl | ⟨A',rfl⟩
   ·by_cases hx:x=10
    ·exact⟨[x],w,by rw[e];rfl,hw,.inr ⟨[],by rw[hx];rfl⟩⟩
    ·refine⟨[],x::w,by rw[e];rfl,λg=>?_,.inl rfl⟩;rcases bL.1 g with g | g
     ·exact hx g.symm
     ·exact hw g
   ·exact⟨x::(A'++[10]),w,by rw[e];rfl,hw,.inr ⟨x::A',rfl⟩⟩
def j04 (s:List Nat):∃b,MendB s b:=by
 by_cases h:∃A,s=A++[10]
 ·obtain⟨Z,rfl⟩:=h;obtain⟨A,w,rfl,hw,hA⟩:=jli Z;exact⟨_,.yes A w (by simp) hA hw _ rfl⟩
 ·exact⟨s,.no λA e=>h ⟨A,e⟩⟩
noncomputable def Ey (N:Nat) (body:List Nat):Option (List Nat×Int):=bif(decide ((65536:Int)< (((cA body).length:Nat):Int))) then(some ([],3)) else((jA N (cA body)).bind λr7=>bif(decide (r7.2.2≠0)) then(some ([],r7.2.2)) else(some (cA body,0)))
def Rz {s body:List Nat} (hm:MendB s body) (hs:s.length<=65536):nC fuel s=Ey fuel body:=by
 have hbl:=hm.len;have fin:(Aa fuel body).bind (λr6=>bif(decide ((65536:Int)< ((r6.length:Nat):Int))) then(some ([],3)) else((jA fuel r6).bind λr7=>bif(decide (r7.2.2≠0)) then(some ([],r7.2.2)) else(some (r6,0))))=Ey fuel body:=by
  rw[jjb (by omega),aO];rfl
 unfold nC;refine(gO (by omega)).trans ?_;cases hm with
 | no h=>
   rw[jxt (by omega) h,aO,qT];simp only[aF];exact fin
 | yes A w e hA hw _ hb=>
   have hl:s.length=A.length+w.length+1:=by rw[e];simp;omega
   have e1:s=(A++w)++[10]:=by rw[e];simp
   have hc:oT fuel (s,[10])=some (A++w,true):=by
    rw[e1];exact Zc (by simp;omega)
   rw[hc,aO,qT];simp only[aB];have hi:lX 10 (A++w)+1=(A.length:Int):=by
    rcases hA with rfl | ⟨A',rfl⟩
    ·rw[dZ,jbe hw];rfl
    ·rw[cD,List.singleton_append,jlg hw];simp
   have hal:(A++w).length=A.length+w.length:=dS;rw[j0a (by omega),aO,hi,cC (cM (by omega) (by omega)),cC (fH.2 ⟨by omega,by omega,by omega⟩)];have hd:((A++w).drop ((A.length:Int)).toNat).take ((A++w).length-((A.length:Int)).toNat)=w:=by
    rw[fF,List.drop_left,hal,iU (by omega)]
   rw[hd];have hn:=jb4 (line:=w) (word:=bI) (many:=1) (by omega) (by omega);rw[show(((1:Nat)):Int)=1 from rfl] at hn;rw[show([101,110,100]:List Nat)=bI from rfl,hn,aO,qT];cases hns:dY w bI 1 with
   | none=>
     rw[hns] at hb;simp only[tX,fX,cO] at hb;subst hb;simp only[aF];exact fin
   | some ns=>
     rw[hns] at hb;simp only[Option.isSome_some,bR] at hb;subst hb;simp only[aB];rw[cC (fH.2 ⟨by omega,by omega,by omega⟩)];have ht:(s.drop 0).take ((body.length:Int)).toNat=body:=by rw[e];simp
     rw[ht];exact fin
def jmf {body:List Nat} (hl:(cA body).length<=65536) {r:uL} (h:jA fuel (cA body)=some r) (h0:r.2.2=0):Ey fuel body=some (cA body,0):=by
 unfold Ey;refine(gO (by omega)).trans ?_;rw[h,aO];exact gO (by simp[h0])
def jme {body:List Nat} (hl:(cA body).length<=65536) {r:uL} (h:jA fuel (cA body)=some r) (h0:r.2.2≠0):Ey fuel body=some ([],r.2.2):=by
 unfold Ey;refine(gO (by omega)).trans ?_;rw[h,aO];exact fG h0
def jza {w h:Nat} (hw:w<=1000000) (hh:h<=1000000):dY (gL w h) bI 1=none:=by
 have d1:=qK (n:=(w:Int)) (by omega) (by omega);have d2:=qK (n:=(h:Int)) (by omega) (by omega);have hwd:=jro (a:=dD) (b:=cF (w:Int)) (c:=cF (h:Int)) (λx hx y hy=>by
  simp only[bL,gW,gU] at hx;rcases hx with rfl | rfl | rfl
  ·simp only[dD,bL,gW,gU] at hy;omega
  ·have:=d1 y hy;omega
  ·have:=d2 y hy;omega)
 unfold dY gL;rw[hwd];simp only;rw[aD λg=>absurd g.1 (by decide)]
def jkb {w h:Nat} (hw:w<=1000000) (hh:h<=1000000):10∉gL w h:=by
 have d1:=qK (n:=(w:Int)) (by omega) (by omega);have d2:=qK (n:=(h:Int)) (by omega) (by omega);intro hy;simp only[gL,dD,aZ,bL,gW,gU] at hy;rcases hy with(hy | hy | hy) | hy | hy
 ·omega
 ·omega
 ·have:=d1 10 hy;omega
 ·omega
 ·have:=d2 10 hy;omega
def wU (w h:Nat) (X:List cW):bZ w h X=(gL w h++[10])++(X.map λx=>dF x++[10]).flatten:=by
 simp[bZ,gL]
def jmc {w h:Nat} (hw:w<=1000000) (hh:h<=1000000) {X:List cW} (hX:∀x∈X,OkX x):MendB (bZ w h X) (bZ w h X):=by
 rcases qfk X with rfl | ⟨Y,y,rfl⟩
 ·refine .yes [] (gL w h) ?_ (.inl rfl) (jkb hw hh) _ ?_
  ·rw[wU];simp
  ·rw[jza hw hh];simp
 ·have hy:=hX y (by simp);refine .yes (bZ w h Y) (dF y) ?_ (.inr ?_) (jdg hy) _ ?_
  ·rw[wU,wU];simp
  ·rcases qfk Y with rfl | ⟨Z,z,rfl⟩
   ·exact⟨gL w h,by rw[wU];simp⟩
   ·exact⟨(gL w h++[10])++(Z.map λx=>dF x++[10]).flatten++dF z,by rw[wU];simp⟩
  ·rw[jdd hy];simp
def jvl (w h:Nat) (Y:List cW):∃A',bZ w h Y=A'++[10]:=by
 rcases qfk Y with rfl | ⟨Z,z,rfl⟩
 ·exact⟨gL w h,by rw[wU];simp⟩
 ·exact⟨(gL w h++[10])++(Z.map λx=>dF x++[10]).flatten++dF z,by rw[wU];simp⟩
def jmd {B:List Nat} (hB:∃A',B=A'++[10]) {n:Int} (h0:0<=n) (h1:n<1000000000):MendB (B++((bI++32::cF n)++[10])) B:=by
 have d:=qK (n:=n) (by omega) (by omega);refine .yes B (bI++32::cF n) rfl (.inr hB) (λhy=>?_) _ ?_
 ·simp only[bI,aZ,bL,gW,gU] at hy;rcases hy with hy | hy | hy
  ·omega
  ·omega
  ·have:=d 10 hy;omega
 ·rw[Zs h0 h1];simp
def jbx {w h:Nat} {T:List aW} (t:Tab w h T) (hw:1<=w/\w<=6) (hh:1<=h/\h<=6) {cr:List bQ} (hcr:PatOK T cr) {s:List Nat} (hs:s.length<=65536) (hm:MendB s (bZ w h (fD T w h (bP cr)))):
  nC fuel s=some (cA (bZ w h (fD T w h (bP cr))),0):=by
 have hX:=Gp t hw hh hcr;have hl:=(yS t hw hh hcr).len;have hbl:=Pm (w:=w) (h:=h) hX hl;have hsl:=tC (bZ w h (fD T w h (bP cr)));rw[Rz hm hs];exact jmf (by simp[cA];omega) (jx0 t hw hh hcr) rfl
def jzd {b:Nat} (hb6:b<=6) (tab:∀w h:Nat,(1<=w/\w<=b)->(1<=h/\h<=b)->∃T,Tab w h T) {s:List Nat} (hB:∀x∈s,x<256) (hp:∀w∈aY 10 s,w.length<=1000)
  (hf:∀u v:Nat,u<1000000000->v<1000000000->gP 10 s=dD++32::bV 20 u++32::bV 20 v->(∃ws,aY 10 s=gP 10 s::ws)->u<=b/\v<=b):
  ∀sh l sum body,cU 0 (0,0) [] [] (aY 10 s)=.inr (sh,(l,(sum,body)))->sum=dE body->mE fuel sh=some 0\/∃(w h:Nat) (T:List aW),sh=((w:Int),(h:Int))/\(1<=w/\w<=6)/\(1<=h/\h<=6)/\Tab w h T:=by
 intro sh l sum body hr _;obtain⟨u,v,z,rfl,h2,h3,h4,h5,h6,h7,h8,ws,h9⟩:=jok hB hp hr;have hd:gP 10 s=dD++32::bV 20 u++32::bV 20 v:=by unfold gP;rw[h9];rfl
 obtain⟨g1,g2⟩:=hf u v h2 h3 hd ⟨ws,by rw[hd];exact h9⟩;rcases jgm ((u:Int),(v:Int)) with⟨_,q1,q2⟩ | ⟨q,_⟩
 ·simp only at q1 q2;obtain⟨T,t⟩:=tab u v (by omega) (by omega);exact .inr ⟨u,v,T,rfl,by omega,by omega,t⟩
 ·exact .inl q
structure GoodLn (b:Nat) (l:List Nat):Prop where
 len:l.length<=60
 by':∀x∈l,x<256
 nl:10∉l
 hd:∀u v:Nat,u<1000000000->v<1000000000->l=dD++32::bV 20 u++32::bV 20 v->u<=b/\v<=b
def jN (Ls:List (List Nat)):List Nat:=(Ls.map λl=>l++[10]).flatten
def jiv {u:Nat} (hu:u<9223372036854775808):32∉bV 20 u:=λg=>by have:=sC hu 32 g;omega
def jxp {u v:Nat} (hu:u<1000000000) (hv:v<1000000000) (r:List Nat):aY 32 (dD++32::bV 20 u++32::(bV 20 v++r))=dD::bV 20 u::(match aY 32 r with
  | w::ws=>(bV 20 v++w)::ws
  | []=>[]):=by
 have e:dD++32::bV 20 u++32::(bV 20 v++r)=dD++32::(bV 20 u++32::(bV 20 v++r)):=by simp
 rw[e,Dk (by decide),Dk (jiv (by omega))]
 congr 2
 have hn:=jiv (u:=v) (by omega);generalize bV 20 v=l at hn;induction l with
 | nil=>
   cases h:aY 32 r with
   | nil=>exact absurd h (uU 32 r)
   | cons w ws=>simp[h]
 | cons x l ih=>
   have hx:x≠32:=λe=>hn (e▸bY)
   rw[eW,aY,aD hx,ih λg=>hn (bX _ g)];cases h:aY 32 r with
   | nil=>exact absurd h (uU 32 r)
   | cons w ws=>rfl
def Za {u v:Nat} (hu:u<1000000000) (hv:v<1000000000):aY 32 (dD++32::bV 20 u++32::bV 20 v)=[dD,bV 20 u,bV 20 v]:=by
 have:=jxp hu hv [];rw[jQ] at this;rw[this];simp[aY]
def jzb {w h b:Nat} (hb6:b<=6) (hw:w<=b) (hh:h<=b):GoodLn b (gL w h):=by
 have d1:(cF (w:Int)).length<=20:=pB 20 _;have d2:(cF (h:Int)).length<=20:=pB 20 _;have c1:=Jh (n:=(w:Int)) (by omega) (by omega);have c2:=Jh (n:=(h:Int)) (by omega) (by omega);refine⟨by simp[gL,dD];omega,λy hy=>?_,jkb (by omega) (by omega),λu v hu hv e=>?_⟩
 ·simp only[gL,dD,aZ,bL,gW,gU] at hy;rcases hy with(hy | hy | hy) | hy | hy
  ·omega
  ·omega
  ·exact c1 y hy
  ·omega
  ·exact c2 y hy
 ·have h1:aY 32 (gL w h)=[dD,bV 20 w,bV 20 h]:=by
   have:=Za (u:=w) (v:=h) (by omega) (by omega);exact this
  have h2:=Za hu hv;rw[<-e,h1] at h2;simp only[kX,mD,true_and] at h2;have e1:=Zh (by omega) (by omega) h2.1;have e2:=Zh (by omega) (by omega) h2.2;omega
def j7k {x:cW} (b:Nat) (hx:OkX x) (r:List Nat) (hr:r=[]\/r=[32]):GoodLn b (dF x++r):=by
 have hl:=Bv hx;refine⟨by rcases hr with rfl | rfl<;>simp<;>omega,λy hy=>?_,λhy=>?_,λu v hu hv e=>?_⟩
 ·rcases aZ.1 hy with hy | hy
  ·exact jdh hx y hy
  ·rcases hr with rfl | rfl<;>simp at hy
   omega
 ·rcases aZ.1 hy with hy | hy
  ·exact jdg hx hy
  ·rcases hr with rfl | rfl<;>simp at hy
 ·exfalso;have:=congrArg (λl=>l[1]?) e;simp[dF,dD] at this
def jyh {n:Int} (b:Nat) (h0:0<=n) (h1:n<1000000000):GoodLn b (bI++32::cF n):=by
 have d1:(cF n).length<=20:=pB 20 _;have c1:=qK (n:=n) (by omega) (by omega);refine⟨by simp[bI];omega,λy hy=>?_,λhy=>?_,λu v hu hv e=>?_⟩
 ·simp only[bI,aZ,bL,gW,gU] at hy;rcases hy with hy | hy | hy
  ·omega
  ·omega
  ·have:=c1 y hy;omega
 ·simp only[bI,aZ,bL,gW,gU] at hy;rcases hy with hy | hy | hy
  ·omega
  ·omega
  ·have:=c1 10 hy;omega
 ·exfalso;have:=congrArg (λl=>l[0]?) e;simp[bI,dD] at this
def jjv (Ls:List (List Nat)) (l:List Nat):jN (Ls++[l])=jN Ls++(l++[10]):=by simp[jN]
def jg9 (w h:Nat) (X:List cW):bZ w h X=jN (gL w h::X.map dF):=by
 simp[wU,jN,lO,Function.comp_def]
end X
end Go.Vm
namespace Go.Vm
namespace X
def j8u (w h:Nat) (hw:1<=w/\w<=4) (hh:1<=h/\h<=4):∃T,Tab w h T:=by
 rcases(by omega:w=1\/w=2\/w=3\/w=4) with e | e | e | e<;>rcases(by omega:h=1\/h=2\/h=3\/h=4) with f | f | f | f<;>subst e<;>subst f
 ·exact⟨_,j80⟩
 ·exact⟨_,j81⟩
 ·exact⟨_,j82⟩
 ·exact⟨_,j83⟩
 ·exact⟨_,j86⟩
 ·exact⟨_,j87⟩
 ·exact⟨_,j88⟩
 ·exact⟨_,j89⟩
 ·exact⟨_,j9c⟩
 ·exact⟨_,j9d⟩
 ·exact⟨_,j9e⟩
 ·exact⟨_,j9f⟩
 ·exact⟨_,j9i⟩
 ·exact⟨_,j9j⟩
 ·exact⟨_,j9k⟩
 ·exact⟨_,j9l⟩
def j8v (w h:Nat) (hw:1<=w/\w<=5) (hh:1<=h/\h<=5):∃T,Tab w h T:=by
 by_cases gw:w=5
 ·subst gw;rcases(by omega:h=1\/h=2\/h=3\/h=4\/h=5) with e | e | e | e | e<;>subst e
  ·exact⟨_,j9o⟩
  ·exact⟨_,j9p⟩
  ·exact⟨_,j9q⟩
  ·exact⟨_,j9r⟩
  ·exact⟨_,jqz⟩
 by_cases gh:h=5
 ·subst gh;rcases(by omega:w=1\/w=2\/w=3\/w=4\/w=5) with e | e | e | e | e<;>subst e
  ·exact⟨_,j84⟩
  ·exact⟨_,j9a⟩
  ·exact⟨_,j9g⟩
  ·exact⟨_,j9m⟩
  ·exact⟨_,jqz⟩
 exact j8u w h (by omega) (by omega)
def jqv (w h:Nat) (hw:1<=w/\w<=6) (hh:1<=h/\h<=6):∃T,Tab w h T:=by
 by_cases gw:w=6
 ·subst gw;rcases(by omega:h=1\/h=2\/h=3\/h=4\/h=5\/h=6) with e | e | e | e | e | e<;>subst e
  ·exact⟨_,j9t⟩
  ·exact⟨_,j9u⟩
  ·exact⟨_,j9v⟩
  ·exact⟨_,j9w⟩
  ·exact⟨_,j9x⟩
  ·exact⟨_,jq0⟩
 by_cases gh:h=6
 ·subst gh;rcases(by omega:w=1\/w=2\/w=3\/w=4\/w=5\/w=6) with e | e | e | e | e | e<;>subst e
  ·exact⟨_,j85⟩
  ·exact⟨_,j9b⟩
  ·exact⟨_,j9h⟩
  ·exact⟨_,j9n⟩
  ·exact⟨_,j9s⟩
  ·exact⟨_,jq0⟩
 exact j8v w h (by omega) (by omega)
end X
end Go.Vm
namespace Go.Vm
namespace X
open W Go.RowKit Go.Proofs.Un
def Cr (s:List Nat):Prop:=∀u v:Nat,u<1000000000->v<1000000000->gP 10 s=dD++32::bV 20 u++32::bV 20 v->u<=6/\v<=6
def jmv {u:Nat} (hu:u<1000000000):lY fuel (bV 20 u)=some (u:Int):=by
 have h1:=Se (n:=(u:Int)) (by omega) (by omega);rw[show cF (u:Int)=bV 20 u from rfl] at h1;have hd:=sC (u:=u) (by omega);have hl:=pB 20 u;rw[jb3 (by omega) λx hx=>by have:=hd x hx;omega,h1];rfl
def j2f {s:List Nat} (hl:s.length<=1000000) (hb:∀x∈s,x<256):∃n,lY fuel s=some n:=⟨_,jb3 hl hb⟩
def juw {s:List Nat} (hl:s.length<=1000000) (hB:∀x∈s,x<256) {K:Bool->Option Bool} {Q:Bool->Prop} (h:∀b,b=true\/Cr s->Ret (K b) Q):
  Ret ((sI fuel (s,10)).bind λr3=>aA (aI 0 r3.length) ((sI fuel ((r3.getD 0 []),32)).bind λr4=>jn K (λj5=>bif(decide (((r4.length:Nat):Int)=3)) then(aA (aI 1 r4.length) ((lY fuel (r4.getD 1 [])).bind λr6=>bif(decide ((6:Int)<r6)) then(j5 true) else(aA (aI 2 r4.length) ((lY fuel (r4.getD 2 [])).bind λr7=>j5 (decide ((6:Int)<r7)))))) else(j5 false)))) Q:=by
 have hc:=Ro (s:=s) (c:=10) hl;have hpt:=jiq 10 s;have hcl:=uT 10 s;have hmm:=Dl 10 s;rw[show((10:Nat):Int)=10 from rfl] at hc;rw[hc,aO];have hh:(aY 10 s).getD 0 []=gP 10 s:=by rw[hpt];rfl
 have hin:gP 10 s∈aY 10 s:=by rw[hpt];exact bY
 have hhl:=hcl.2 _ hin;have hc2:=Ro (s:=gP 10 s) (c:=32) (by omega);rw[show((32:Nat):Int)=32 from rfl] at hc2;rw[hh,hc2,aO];refine bB (cZ (by omega) (by rw[hpt];simp)) ?_;by_cases hf:Cr s
 ·refine Id (λb=>True) (λb _=>h b (.inr hf)) λj hj=>?_
  refine aS (λg=>?_) λ_=>hj _ trivial
  have g3:(aY 32 (gP 10 s)).length=3:=by omega
  have el:∀(i:Nat) (hi:i<3),∃n,lY fuel ((aY 32 (gP 10 s)).getD i [])=some n:=λi hi=>by
   have hi:i< (aY 32 (gP 10 s)).length:=by omega
   have e:(aY 32 (gP 10 s)).getD i []=(aY 32 (gP 10 s))[i]:=by rw[jF,dK hi];rfl
   have hm:=dU hi;have h2:=(uT 32 (gP 10 s)).2 _ hm;rw[e];exact j2f (by omega) λx hx=>hB x (hmm _ hin x (Dl 32 _ _ hm x hx))
  obtain⟨n1,e1⟩:=el 1 (by decide);obtain⟨n2,e2⟩:=el 2 (by decide);rw[e1,aO,e2];refine kN (aS (λ_=>hj _ trivial) λ_=>kN ?_);rw[aO];exact hj _ trivial
 ·have:∃u v:Nat,u<1000000000/\v<1000000000/\gP 10 s=dD++32::bV 20 u++32::bV 20 v/\¬(u<=6/\v<=6):=by
   refine sO λg=>hf λu v h1 h2 h3=>sO λg2=>g ⟨u,v,h1,h2,h3,g2⟩
  obtain⟨u,v,hu,hv,e,hn⟩:=this;have e3:aY 32 (gP 10 s)=[dD,bV 20 u,bV 20 v]:=by rw[e];exact Za hu hv
  rw[e3];refine Id (λb=>b=true) (λb hb=>h b (.inl hb)) λj hj=>?_
  refine aS (λ_=>bB (cZ (by omega) (by simp)) ?_) λg=>absurd (by trivial) g
  rw[show([dD,bV 20 u,bV 20 v]:List (List Nat)).getD 1 []=bV 20 u from rfl,show([dD,bV 20 u,bV 20 v]:List (List Nat)).getD 2 []=bV 20 v from rfl,jmv hu,jmv hv,aO,aO];exact aS (λ_=>hj _ rfl) λg=>bB (cZ (by omega) (by simp)) (hj _ (cK (by omega)))
def jlo {s:List Nat} (h:s.length<=1000):∀w∈aY 10 s,w.length<=1000:=λw hw=>by
 have:=(uT 10 s).2 w hw;omega
def jki {s:List Nat} (hB:∀x∈s,x<256) (hp:∀w∈aY 10 s,w.length<=1000) (h6:Cr s):∀sh l sum body,cU 0 (0,0) [] [] (aY 10 s)=.inr (sh,(l,(sum,body)))->sum=dE body->mE fuel sh=some 0\/∃(w h:Nat) (T:List aW),sh=((w:Int),(h:Int))/\(1<=w/\w<=6)/\(1<=h/\h<=6)/\Tab w h T:=jzd (b:=6) (aU _) jqv hB hp λu v h1 h2 h3 _=>h6 u v h1 h2 h3
def j5n {w h:Nat} (hw:w<=1000000) (hh:h<=1000000) {v:List Nat} {ws:List (List Nat)} (hb:∀(i:Nat),1<=i->∀sh l body,∃n,cU i sh l body (v::ws)=.inl n):∃n,cU 0 (0,0) [] [] (gL w h::v::ws)=.inl n:=by
 rw[cU];simp only[bR];rw[show gL w h=dD++32::cF (w:Int)++32::cF (h:Int) from rfl,jkc hw hh];exact hb 1 (aU _) _ _ _
def joi {v:List Nat} {ws:List (List Nat)} (hb:∀(i:Nat),1<=i->∀sh l body,∃n,cU i sh l body (v::ws)=.inl n):∀(X:List cW),(∀x∈X,OkX x)->∀(i:Nat),1<=i->∀sh l body,∃n,cU i sh l body (X.map dF++(v::ws))=.inl n
 | [],_,i,hi,sh,l,body=>hb i hi sh l body
 | x::X,hX,i,hi,sh,l,body=>by
   have ih:=joi hb X (λy hy=>hX y (bX _ hy)) (i+1) (by omega) sh (l++[x]) (body++(dF x++[10]));have hx:=hX x bY;obtain⟨v2,ws2,e⟩:∃v2 ws2,X.map dF++(v::ws)=v2::ws2:=by
    cases X with
    | nil=>exact⟨_,_,rfl⟩
    | cons y Y=>exact⟨_,_,rfl⟩
   rw[dA,eW,e,cU,aD (by omega),jdd hx];simp only;rw[aD (by omega),jph hx];simp only;rw[<-e];exact ih
def jof {w h:Nat} (hw:w<=1000000) (hh:h<=1000000) {X:List cW} (hX:∀x∈X,OkX x) {v:List Nat} {ws:List (List Nat)} (hb:∀(i:Nat),1<=i->∀sh l body,∃n,cU i sh l body (v::ws)=.inl n):∃n,cU 0 (0,0) [] [] (gL w h::(X.map dF++(v::ws)))=.inl n:=by
 have h1:=joi hb X hX;obtain⟨v2,ws2,e⟩:∃v2 ws2,X.map dF++(v::ws)=v2::ws2:=by
  cases X with
  | nil=>exact⟨_,_,rfl⟩
  | cons y Y=>exact⟨_,_,rfl⟩
 rw[e] at h1 ⊢;exact j5n hw hh h1
def kap {a:List Nat} (h:∀y∈a,y<256/\y≠32):cY a [32]=[a]:=by
 have h1:=Rh (w:=a) (ws:=[]) λx hx=>by rw[bF.1 hx];exact h
 rw[Eg λy hy=>(h y hy).1] at h1;exact h1
def jja:dY bI bI 1=none:=by
 unfold dY;rw[kap λy hy=>by simp only[bI,bL,gW,gU] at hy;omega];simp
def jyi:oJ bI=none:=by
 cases h:oJ bI with
 | none=>rfl
 | some x=>
   obtain⟨_,e⟩:=jny (by decide) h;have:=congrArg (λl=>l[1]?) e;simp[dF,bI] at this
def jmg {s body:List Nat} (hm:MendB s body) (hs:s.length<=65536) (hl:(cA body).length<=65536) (hp:∀w∈aY 10 (cA body),w.length<=1000) {n:Int} (hr:cU 0 (0,0) [] [] (aY 10 (cA body))=.inl n):nC fuel s=some ([],4):=by
 rw[Rz hm hs];exact jme hl (jxz hl hp hr).1 (by simp[zS])
def Zr {b:Nat} (Ls:List (List Nat)) (h:∀l∈Ls,GoodLn b l):cA (jN Ls)=jN (Ls++[bI++32::cF (dE (jN Ls))])/\(∀l∈Ls++[bI++32::cF (dE (jN Ls))],GoodLn b l)/\aY 10 (cA (jN Ls))=Ls++[bI++32::cF (dE (jN Ls)),[]]:=by
 have hsc:=rK (jN Ls);have eg:=jyh (n:=dE (jN Ls)) b (by omega) (by omega);have e1:cA (jN Ls)=jN (Ls++[bI++32::cF (dE (jN Ls))]):=by rw[jjv];simp[cA,bI]
 have e2:∀l∈Ls++[bI++32::cF (dE (jN Ls))],GoodLn b l:=λl hl=>by
  rcases aZ.1 hl with hl | hl
  ·exact h l hl
  ·rw[bF.1 hl];exact eg
 refine⟨e1,e2,?_⟩;rw[e1];have:=Qb [] _ λl hl=>(e2 l hl).nl
 rw[jQ] at this;refine this.trans ?_;simp[aY]
def jj6 {b:Nat} {Ls:List (List Nat)} (h:∀l∈Ls,GoodLn b l):∀w∈aY 10 (jN Ls),w.length<=1000:=by
 have:=Qb [] Ls λl hl=>(h l hl).nl
 rw[jQ] at this;rw[show jN Ls=(Ls.map λl=>l++[10]).flatten from rfl,this];intro w hw;rcases aZ.1 hw with hw | hw
 ·have:=(h w hw).len;omega
 ·simp[aY] at hw;rw[hw];exact fM _
def jyg {B C:List Nat} (h:cA B=cA C):B=C:=by
 have b1:=rK B;have b2:=rK C;rw[Dq,Dq] at h;have eB:=ji8 (B:=B) (D:=bV 20 (dE B).toNat) (sC (by omega));have eC:=ji8 (B:=C) (D:=bV 20 (dE C).toNat) (sC (by omega));rw[<-h] at eC;have hq:B.length=C.length:=by
  have h1:=eB.lt eC (i:=0) λj _=>rfl
  have h2:=eC.lt eB (i:=0) λj _=>rfl
  omega
 exact(List.append_inj h hq).1
def jam {c:Nat}:∀ {Z:List Nat} (R:List Nat),c∈Z->gP c (Z++R)=gP c Z
 | [],_,h=>by cases h
 | x::Z,R,h=>by
   rw[eW];by_cases hx:x=c
   ·rw[hx,jj9,jj9]
   ·rw[jka hx,jka hx,jam R ((bL.1 h).resolve_left λe=>hx e.symm)]
def jy9 {c:Nat} {l:List Nat} (h:c∉l) (r:List Nat):gP c (l++c::r)=l:=by unfold gP;rw[Dk h];rfl
def jjt {raw body R:List Nat} (e:raw=body++R) (h:Cr raw):Cr (cA body):=by
 have b1:=rK body;intro u v hu hv hd;by_cases hn:10∈body
 ·refine h u v hu hv ?_;rw[e,jam R hn,<-hd,Dq,jam _ hn]
 ·exfalso;have dd:=sC (u:=(dE body).toNat) (by omega);have e1:cA body=(body++(bI++32::bV 20 (dE body).toNat))++10::[]:=by rw[Dq];simp
  rw[e1,jy9 λg=>?_] at hd
  ·have h1:(110:Nat)∈body++(bI++32::bV 20 (dE body).toNat):=by simp[bI]
   rw[hd] at h1;have du:=sC (u:=u) (by omega);have dv:=sC (u:=v) (by omega);simp only[dD,aZ,bL,gW,gU] at h1;rcases h1 with(h1 | h1 | h1) | h1 | h1
   ·omega
   ·omega
   ·have:=du _ h1;omega
   ·omega
   ·have:=dv _ h1;omega
  ·simp only[bI,aZ,bL,gW,gU] at g;rcases g with g | g | g | g
   ·exact hn g
   ·omega
   ·omega
   ·have:=dd _ g;omega
def j5j {raw:List Nat} (hl:raw.length<=100) (hB:∀x∈raw,x<256) (h6:Cr raw):
  (∃c r,nC fuel raw=some (c,0)/\jA fuel c=some r/\r.2.2=0)\/(∃e r,nC fuel raw=some ([],e)/\e≠0/\Ai fuel (cA raw)=some r/\r.2.2≠0):=by
 obtain⟨body,hm⟩:=j04 raw;obtain⟨R,eR⟩:=hm.pre;have hbl:=hm.len;have hBb:∀x∈body,x<256:=λx hx=>hB x (by rw[eR];simp[hx])
 have s1:=tC body;have s2:=tC raw;have l1:(cA body).length<=200:=by simp[cA];omega
 have l2:(cA raw).length<=200:=by simp[cA];omega
 have p1:=jlo (s:=cA body) (by omega);have p2:=jlo (s:=cA raw) (by omega);have B1:=ji9 hBb;have B2:=ji9 hB;obtain⟨r,d1,_,r1,_⟩:=jiz (by omega) B1 p1 (jki B1 p1 (jjt eR h6));obtain⟨q,d2,_,_,q1⟩:=jiz (by omega) B2 p2 (jki B2 p2 (jjt (R:=[]) (by simp) h6));by_cases h0:r.2.2=0
 ·exact .inl ⟨_,r,by rw[Rz hm (by omega)];exact jmf (by omega) r1 h0,r1,h0⟩
 ·have hmn:nC fuel raw=some ([],r.2.2):=by rw[Rz hm (by omega)];exact jme (by omega) r1 h0
  refine .inr ⟨r.2.2,q,hmn,h0,q1,λg=>?_⟩;obtain⟨w,h,T,cr,t,hw,hh,hcr,_,e1⟩:=ju1 B2 p2 d2 g;have e2:=jyg e1;have hX:=Gp t hw hh hcr;have:=jbx t hw hh hcr (s:=raw) (by omega) (by rw[e2];exact jmc (by omega) (by omega) hX);rw[hmn] at this;simp only[aG,aM] at this;exact h0 this.2
def j05 {w h:Nat} {T:List aW} (t:Tab w h T) (hw:1<=w/\w<=6) (hh:1<=h/\h<=6) {cr:List bQ} (hcr:PatOK T cr) {a:Int×(Int×List Int)} (ha:Ek fuel a=some ((w:Int),((h:Int),cr)))
  {n:Int} (n0:0<=n) (n1:n<=65535) {raw:List Nat} (hB:∀x∈raw,x<256):Rn fuel (a,(n,raw))=some true:=by
 obtain⟨_,hre⟩:=jyf t hw hh hcr;have hX:=Gp t hw hh hcr;have hl:=(yS t hw hh hcr).len;have hbl:=Pm (w:=w) (h:=h) hX hl;have hrb:=jou t hw hh hcr;have hsl:=tC (bZ w h (fD T w h (bP cr)));have hnl:=Qd n0 (by omega);have hnl2:=jvl w h (fD T w h (bP cr));have hmb:=jmc (w:=w) (h:=h) (by omega) (by omega) hX;have m1:=jbx t hw hh hcr (s:=bZ w h (fD T w h (bP cr))++((bI++32::cF n)++[10])) (by simp[bI];omega) (jmd hnl2 n0 (by omega));have m2:=jbx t hw hh hcr (s:=bZ w h (fD T w h (bP cr))) (by omega) hmb;generalize fD T w h (bP cr)=X at hre hX hl hbl hrb hsl hnl2 hmb m1 m2;have hLg:∀l∈gL w h::X.map dF,GoodLn 6 l:=λl hl=>by
  rcases bL.1 hl with rfl | hl
  ·exact jzb (by omega) hw.2 hh.2
  ·obtain⟨x,hx,rfl⟩:=bU.1 hl;have:=j7k 6 (hX x hx) [] (.inl rfl);rwa[jQ] at this
 have m3:nC fuel (bZ w h (X)++(bI++[10]))=some ([],4):=by
  have hg2:∀l∈(gL w h::X.map dF)++[bI],GoodLn 6 l:=λl hl=>by
   rcases aZ.1 hl with hl | hl
   ·exact hLg l hl
   ·rw[bF.1 hl];refine⟨by decide,λy hy=>?_,by decide,λu v hu hv e=>?_⟩
    ·simp only[bI,bL,gW,gU] at hy;omega
    ·have:=congrArg (λl=>l[0]?) e;simp[bI,dD] at this
  obtain⟨c1,c2,c3⟩:=Zr _ hg2;have es:bZ w h (X)++(bI++[10])=jN ((gL w h::X.map dF)++[bI]):=by rw[jjv,jg9]
  have hm3:MendB (bZ w h (X)++(bI++[10])) (bZ w h (X)++(bI++[10])):=.yes _ bI rfl (.inr hnl2) (by decide) _ (by rw[jja];simp);have hlen:(bZ w h (X)++(bI++[10])).length<=41200:=by simp[bI];omega
  have hs3:=tC (bZ w h (X)++(bI++[10]));have hl3:(cA (bZ w h (X)++(bI++[10]))).length<=65536:=by
   have:(cA (bZ w h (X)++(bI++[10]))).length=(bZ w h (X)++(bI++[10])).length+5+ (cF (dE (bZ w h (X)++(bI++[10])))).length:=by
    unfold cA;simp;omega
   omega
  obtain⟨k,hk⟩:=jof (w:=w) (h:=h) (by omega) (by omega) hX (v:=bI) (ws:=[bI++32::cF (dE (jN ((gL w h::X.map dF)++[bI]))),[]]) λi hi sh l body=>by
   rw[cU,aD (by omega),jja];simp only;rw[aD (by omega),jyi];exact⟨_,rfl⟩
  rw[es] at hm3 hlen hl3 ⊢;refine jmg hm3 (by omega) hl3 (by rw[c1];exact jj6 c2) (n:=k) ?_;rw[c3];simp only[eW,cD,dZ];exact hk
 have m4:nC fuel (cA (bZ w h (X))++((bI++32::cF 0)++[10]))=some ([],4):=by
  obtain⟨c1,c2,c3⟩:=Zr _ hLg;rw[<-jg9] at c1 c2 c3;obtain⟨f1,f2,f3⟩:=Zr _ c2;rw[<-c1] at f1 f2 f3;have hnl4:∃A',cA (bZ w h (X))=A'++[10]:=⟨_,rfl⟩
  have hs4:=tC (cA (bZ w h (X)));have hl4:(cA (bZ w h (X))).length<=41200:=by simp[cA];omega
  have hl5:(cA (cA (bZ w h (X)))).length<=65536:=by
   have:(cA (cA (bZ w h (X)))).length=(cA (bZ w h (X))).length+5+ (cF (dE (cA (bZ w h (X))))).length:=by
    rw[show cA (cA (bZ w h (X)))=((cA (bZ w h (X))++[101,110,100,32])++cF (dE (cA (bZ w h (X)))))++[10] from rfl,dS,dS,dS];simp;omega
   omega
  have hsb:=rK (bZ w h (X));obtain⟨k,hk⟩:=jof (w:=w) (h:=h) (by omega) (by omega) hX (v:=bI++32::cF (dE (bZ w h (X)))) (ws:=[bI++32::cF (dE (cA (bZ w h (X)))),[]]) λi hi sh l body=>by
   rw[cU,aD (by omega),Zs (by omega) (by omega)];simp only;rw[aD λg=>by simp[bI] at g];exact⟨_,rfl⟩
  refine jmg (jmd hnl4 (Lt 0) (by decide)) (by
   have d0:cF 0=[48]:=by decide
   rw[d0,dS];simp[bI];omega) hl5 (by rw[f1];exact jj6 f2) (n:=k) ?_
  rw[f3];simp only[eW,cD,dZ];exact hk
 generalize hE:cA (bZ w h X)=S at hre m1 m2 m4;generalize bZ w h X=B at hrb hbl hsl m1 m2 m3 hE;have hSl:S.length<=41200:=by rw[<-hE];simp[cA];omega
 have a1:((B++[101,110,100,32])++cF n)++[10]=B++((bI++32::cF n)++[10]):=by simp[bI]
 have a3:B++[101,110,100,10]=B++(bI++[10]):=by simp[bI]
 have a4:S++[101,110,100,32,48,10]=S++((bI++32::cF 0)++[10]):=by
  have:cF 0=[48]:=by decide
  rw[this];simp[bI]
 apply Ret.eq;unfold Rn;simp only;refine aS (λ_=>cB rfl) λhr=>?_
 have hr:raw.length<=100:=by omega
 rw[show(a.1,(a.2.1,a.2.2))=a from rfl,ha,aO];simp only;rw[hre,aO,hrb,aO,Hu n0 (by omega),aO,a1,m1,aO,m2,aO,a3,m3,aO,a4,m4,aO];refine zG (cI (bB (cK (by simp;omega)) (bB (cK (by simp;omega)) (zG (zG ?_)))));refine Id (λx=>x=false) (λx hx=>?_) λj hj=>?_
 ·subst hx;rw[aF];refine juw (by omega) hB λb hb=>iI (λ_=>cB rfl) λhbf=>?_
  rcases hb with hb | h6
  ·rw[hb] at hbf;cases hbf
  rcases j5j hr hB h6 with⟨c,r,q1,q2,q3⟩ | ⟨e,r,q1,q2,q3,q4⟩
  ·rw[q1,aO];refine aS (λ_=>?_) λg=>absurd (by trivial) g
   rw[q2,aO];exact aS (λ_=>jlv) λg=>absurd q3 g
  ·rw[q1,aO];refine aS (λg=>absurd g q2) λ_=>?_
   rw[jov (by omega) hB,aO,q3,aO];exact aS (λ_=>aS (λ_=>jlv) λg=>absurd q4 g) λg=>absurd (by trivial) g
 ·refine aS (λg=>absurd (by trivial) g) λ_=>aS (λg=>absurd (by trivial) g) λ_=>aS (λg=>absurd (by trivial) g) λ_=>aS (λg=>absurd (by trivial) g) λ_=>aS (λg=>absurd (by trivial) g) λ_=>hj _ (by simp)
def juc {a:Int×(Int×List Int)} (h1:0<=a.1) (h3:0<=a.2.1) (hk:∀k∈a.2.2,0<=k) {n:Int} (n0:0<=n) (n1:n<=65535) {raw:List Nat} (hB:∀x∈raw,x<256):Rn fuel (a,(n,raw))=some true:=by
 obtain⟨w,h,hw,hh,H⟩:=jur h1 h3 hk;obtain⟨T,t⟩:=jqv w h (by omega) (by omega);obtain⟨cr,ho,ha⟩:=H T t;exact j05 t (by omega) (by omega) ho ha n0 n1 hB
end X
end Go.Vm
