/- Parts of the proof. -/
import Derived.Test.YtccefhabickfiaaGreatDoorXG7
import Derived.Shelf.SlSortCmp.WholeK
set_option linter.unusedSimpArgs false
set_option linter.defProp false
set_option linter.unusedVariables false
namespace Go.Vm
namespace X
open W
variable {B:Base} {call:FuncId->List AV->Tr Blk->Nat->Nat->bN} {ro:Nat} {e:Env} {c:Cnv} {S:St} {tm:Tr AV} {H:Tr Blk} {nx:Nat} {ν:Nm} {F:aQ} {M R:List Ent}
inductive Ak where
 | v (r:Rep)
 | pd (t:Ty)
 | cell (r:Rep)
 | row (t:Ty)
 | self
@[reducible] def Ak.den:Ak->Type
  | .v r=>r.den
  | .pd t=>t.den
  | .cell r=>r.den
  | .row t=>List t.den×Option Nat
  | .self=>Unit
@[reducible] def Ak.rden:Ak->Type
  | .cell r=>r.den
  | .row t=>List t.den×Option Nat
  | _=>Unit
@[reducible] def Hv:List Ak->Type
  | []=>Unit
  | k::l=>k.den×Hv l
@[reducible] def Cq:List Ak->Type
  | []=>Unit
  | k::l=>k.rden×Cq l
def Oj (F:aQ) (f:FuncId) (caps:List AV):(k:Ak)->k.den->AV->List Ent->Prop
 | .v r,x,a,E=>gC F r x a E
 | .pd t,x,a,E=>(∃b l,a=.ptr b 0/\(b,HB.cells l)∈F/\t.ok=true/\t.size<=l.length/\aX F t x (l.take t.size))/\E=[]
 | .cell r,x,a,E=>∃b m E',a=.ptr b 0/\E=E'++[⟨b,true,.cells m⟩]/\oW F r x m E'
 | .row t,x,a,E=>oV F t x.1 x.2 a E
 | .self,_,a,E=>(∃b,a=.ptr b 0/\(b,HB.cells [.fn (.func f) [] caps])∈F)/\E=[]
def Wx (F:aQ) (f:FuncId) (caps:List AV):(ks:List Ak)->Hv ks->List AV->List Ent->Prop
 | [],_,vs,E=>vs=[]/\E=[]
 | k::ks,x,vs,E=>∃a vs' E1 E2,vs=a::vs'/\E=E2++E1/\Oj F f caps k x.1 a E1/\Wx F f caps ks x.2 vs' E2
def Ov (F:aQ):(k:Ak)->k.rden->AV->List Ent->Prop
 | .cell r,y,a,E=>∃b m E',a=.ptr b 0/\E=E'++[⟨b,true,.cells m⟩]/\oW F r y m E'
 | .row t,y,a,E=>oV F t y.1 y.2 a E
 | .v _,_,_,E | .pd _,_,_,E | .self,_,_,E=>E=[]
def Cx (F:aQ):(ks:List Ak)->Cq ks->List AV->List Ent->Prop
 | [],_,vs,E=>vs=[]/\E=[]
 | k::ks,y,vs,E=>∃a vs' E1 E2,vs=a::vs'/\E=E2++E1/\Ov F k y.1 a E1/\Cx F ks y.2 vs' E2
def jt3 {F F':aQ} (hF:∀x∈F,x∈F') {f:FuncId} {caps:List AV}:∀(k:Ak) {x:k.den} {a:AV} {E:List Ent},Oj F f caps k x a E->Oj F' f caps k x a E
 | .v r,x,a,E,h=>Pb hF h
 | .pd t,x,a,E,⟨⟨b,l,h1,h2,h3,h4,h5⟩,h6⟩=>⟨⟨b,l,h1,hF _ h2,h3,h4,gY hF t _ _ h5⟩,h6⟩
 | .cell r,x,a,E,⟨b,m,E',h1,h2,h3⟩=>⟨b,m,E',h1,h2,zI hF r _ _ _ h3⟩
 | .row t,x,a,E,⟨y,h1,h2⟩=>⟨y,h1,uI hF h2⟩
 | .self,x,a,E,⟨⟨b,h1,h2⟩,h3⟩=>⟨⟨b,h1,hF _ h2⟩,h3⟩
def jus {F F':aQ} (hF:∀x∈F,x∈F'):∀(k:Ak) {y:k.rden} {a:AV} {E:List Ent},Ov F k y a E->Ov F' k y a E
 | .v r,y,a,E,h=>h
 | .pd t,y,a,E,h=>h
 | .self,y,a,E,h=>h
 | .cell r,y,a,E,⟨b,m,E',h1,h2,h3⟩=>⟨b,m,E',h1,h2,zI hF r _ _ _ h3⟩
 | .row t,y,a,E,⟨z,h1,h2⟩=>⟨z,h1,uI hF h2⟩
def jfw {F F':aQ} (hF:∀x∈F,x∈F'):∀ {ks:List Ak} {y:Cq ks} {vs:List AV} {E:List Ent},Cx F ks y vs E->Cx F' ks y vs E
 | [],y,vs,E,h=>h
 | k::ks,y,vs,E,⟨a,vs',E1,E2,h1,h2,h3,h4⟩=>⟨a,vs',E1,E2,h1,h2,jus hF k h3,jfw hF h4⟩
structure TR where
 f:FuncId
 np:Nat
 ks:List Ak
 outs:List Rep
 run:Hv ks->Option (eE outs×Cq ks)
def TR.OK (B:Base) (call:FuncId->List AV->Tr Blk->Nat->Nat->bN) (t:TR):Prop:=
 ∀a r y,t.run a=some (r,y)->∀ro O E0 H nx,HK B ro (E0++O) H nx->(∀x∈E0,x.w=true)->∀A:aQ,(∀x∈A,Has O x.1 x.2\/iW B x)->∀vs,Wx A t.f (vs.drop t.np) t.ks a vs E0->
  ∃v E Er N H' nx' F',call t.f vs H nx ro=some (v,H',nx')/\HK B ro (E++(Er++(N++O))) H' nx'/\(∀x∈E++Er,x.w=true)/\(∀x∈F',Has N x.1 x.2\/x∈A\/iW B x)/\uK F' t.outs r v E/\Cx F' t.ks y vs Er
def Mh:List SV->List SV->Bool
 | [],[]=>true
 | a::l,b::m=>(match Ax a,Ax b with
   | some (x,o),some (y,p)=>x.beq y&&o.beq p
   | _,_=>false)&&Mh l m
 | _,_=>false
def jc7:∀ {l m:List SV} {u v:List AV},Mh l m=true->bC ν F l u->bC ν F m v->u=v
 | [],[],u,v,_,h1,h2=>by simp only[bC] at h1 h2;rw[h1,h2]
 | a::l,b::m,u,v,h,⟨x,u',e1,h1,h2⟩,⟨y,v',e2,h3,h4⟩=>by
   simp only[Mh,aN] at h;obtain⟨h,h5⟩:=h;subst e1;subst e2;split at h<;>try (cases h;done)
   rename_i bx ox b2 o2 q1 q2;simp only[aN,aL,aH] at h;obtain⟨rfl,rfl⟩:=h;rw[Ay q1 h1,Ay q2 h3,jc7 h5 h2 h4]
 | [],_::_,u,v,h,_,_=>by cases h
 | _::_,[],u,v,h,_,_=>by cases h
def Hg (f:FuncId) (caps:List SV) (nc:Nat):(k:Ak)->bE->SV->Option (Option Bool×bE×k.den)
 | .v r,mv,s=>Jm r mv s
 | .pd t,mv,s=>match s with
   | .nptr b t' x 0=>bif t.ok then(if h:t'=t then some (none,mv,h▸x) else none) else none
   | .ptr b 0=>match cL mv b with
     | some (.lit cs)=>jY (.d t) (eM mv b) cs
     | _=>none
   | _=>none
 | .cell r,mv,s=>match s with
   | .ptr b 0=>bif Nat.blt b nc then(match cL mv b with
     | some (.lit cs)=>jY r (eM mv b) cs
     | _=>none) else none
   | _=>none
 | .row t,mv,s=>match s with
   | .own n=>bif Nat.blt n nc then(match xA t mv (.own n) with
     | some (c,mv,L,cp)=>some (c,mv,(L,cp))
     | none=>none) else none
   | _=>none
 | .self,mv,s=>match s with
   | .ptr b 0=>match cL mv b with
     | some (.lit [.fn f' [] cs])=>bif Nat.beq f' f&&Mh cs caps then some (none,eM mv b,()) else none
     | _=>none
   | .cptr b f' k cs=>bif Nat.beq f' f&&Mh (cs.set k (.cptr b f' k cs)) caps then some (none,mv,()) else none
   | _=>none
def Nt (f:FuncId) (caps:List SV) (nc:Nat):(ks:List Ak)->bE->List SV->Option (Option Bool×bE×Hv ks)
 | [],mv,ss=>match ss with
   | []=>some (none,mv,())
   | _=>none
 | k::ks,mv,ss=>match ss with
   | s::ss=>match Hg f caps nc k mv s with
     | some (c1,mv,x)=>match Nt f caps nc ks mv ss with
       | some (c2,mv,y)=>some (wS c1 c2,mv,(x,y))
       | none=>none
     | none=>none
   | _=>none
def Xl (ν:Nm) (nc:Nat) (k:Ak) (s:SV) (v:AV):Prop:=match k with
 | .cell _=>∃b,s=.ptr b 0/\v=.ptr (ν b).1 0/\b<nc
 | .row _=>∃n,s=.own n/\v=(ν n).2/\(∀k o m c z,(ν n).2=.sl k o m c z->k=(ν n).1)/\n<nc
 | _=>True
def Xm (ν:Nm) (nc:Nat):List Ak->List SV->List AV->Prop
 | [],ss,vs=>ss=[]/\vs=[]
 | k::ks,ss,vs=>∃s ss' v vs',ss=s::ss'/\vs=v::vs'/\Xl ν nc k s v/\Xm ν nc ks ss' vs'
def jnv {E:List Ent} (h:ConX B ro e (c.park E) S tm H nx ν F M R):ConX B ro e c S tm H nx ν (lW E++F) M (E++R):=by
 have up:∀x∈F,x∈lW E++F:=λx hx=>aZ.2 (.inr hx)
 refine⟨h.hk.perm ?_,λn v hv=>nW up _ _ (h.fr n v hv),jT up _ _ h.ov,zD up h.mv,h.wr,zC up h.mc,λx hx=>?_,h.gl⟩
 ·have e1:(c.park E).O0=E++c.O0:=by simp[Cnv.O0,Cnv.park]
  rw[e1];show(M++(c.Mc++((E++R)++c.O0))).Perm (M++(c.Mc++(R++(E++c.O0))));rw[cD];exact dW _ (dW _ (fW R E _).symm)
 ·rw[cD];rcases aZ.1 hx with hx | hx
  ·exact .inl (Has.append_left (jjl x hx))
  ·exact(h.fz x hx).imp (λh=>Has.append_right h) id
def Sq {c:Cnv} {E E':List Ent}:(c.park E).park E'=c.park (E'++E):=by simp[Cnv.park]
def jg8 {b n:Nat} (h:Nat.blt b n=true):b<n:=by
 have:b+1<=n:=by simpa[Nat.blt] using h
 omega
def j8w {f:FuncId} {caps:List SV} {nc:Nat} {k:Ak} (h:ConX B ro e c S tm H nx ν F M R) {s:SV} {cc:Option Bool} {mv:bE} {x:k.den} (hs:Hg f caps nc k S.mv s=some (cc,mv,x)) (hc:dT cc=true) {v:AV} (hv:aJ ν F s v) {cv:List AV} (hcv:bC ν F caps cv):
  ∃E F' M' R',ConX B ro e (c.park E) { S with mv:=mv } tm H nx ν F' M' R'/\(∀x∈E,x.w=true)/\(∀x∈F,x∈F')/\Oj F' f cv k x v E/\Xl ν nc k s v:=by
 cases k with
 | v r=>
   obtain⟨E,F',M',R',k1,k2,k3,k4⟩:=Zz h hs hc hv;exact⟨E,F',M',R',k1,k2,k3,k4,trivial⟩
 | pd t=>
   simp only[Hg] at hs;split at hs<;>try (cases hs;done)
   ·rename_i b t' x';obtain⟨ht,hs⟩:=aR hs;split at hs<;>try (cases hs;done)
    rename_i e1;subst e1;cases hs;obtain⟨rfl,l,h1,h2,h3⟩:=hv;exact⟨[],F,M,R,h,λ_ h=>(by cases h),λ_ h=>h,⟨⟨_,l,rfl,h1,ht,h2,h3⟩,rfl⟩,trivial⟩
   ·rename_i b;split at hs<;>try (cases hs;done)
    rename_i cs hb;simp only[aJ] at hv;subst hv;obtain⟨E1,M1,⟨w,m,rfl,hm⟩,hw,hC⟩:=h.park hb;obtain⟨E2,F',M',R',k1,k2,k3,k4⟩:=zZ (.d t) (S:={ S with mv:=eM S.mv b }) hC hs hc hm;obtain⟨ht,k4,rfl⟩:=k4;rw[j4z] at k1;have hpf:=jnv k1;have hlen:=cV t _ _ k4;refine⟨[],_,_,_,hpf,λ_ h=>(by cases h),λy hy=>aZ.2 (.inr (k3 y hy)),⟨⟨_,m,rfl,?_,ht,Nat.le_of_eq hlen.symm,?_⟩,rfl⟩,trivial⟩
    ·exact aZ.2 (.inl (bF.2 rfl))
    ·rw[<-hlen,mC];exact gY (λy hy=>aZ.2 (.inr hy)) t _ _ k4
 | cell r=>
   simp only[Hg] at hs;split at hs<;>try (cases hs;done)
   rename_i b;obtain⟨hb0,hs⟩:=aR hs;split at hs<;>try (cases hs;done)
   rename_i cs hb;simp only[aJ] at hv;subst hv;obtain⟨E1,M1,⟨w,m,rfl,hm⟩,hw,hC⟩:=h.park hb;have ew:=hw _ (bF.2 rfl);simp only at ew;subst ew;obtain⟨E2,F',M',R',k1,k2,k3,k4⟩:=zZ r (S:={ S with mv:=eM S.mv b }) hC hs hc hm;rw[Sq] at k1;refine⟨_,F',M',R',k1,λy hy=>?_,k3,⟨_,m,E2,rfl,rfl,k4⟩,_,rfl,rfl,jg8 hb0⟩;rcases aZ.1 hy with hy | hy
   ·exact k2 y hy
   ·exact hw y hy
 | row t=>
   simp only[Hg] at hs;split at hs<;>try (cases hs;done)
   rename_i n;obtain⟨hb0,hs⟩:=aR hs;split at hs<;>try (cases hs;done)
   rename_i c1 mv1 L cap hx;cases hs;obtain⟨E,M',k1,k2,k3⟩:=Jk h hx hc hv;refine⟨E,F,M',R,k1,k2,λ_ h=>h,k3 cap (λm hm=>hm),n,rfl,hv.1,?_,jg8 hb0⟩;simp only[xA] at hx;split at hx<;>try (cases hx;done)
   rename_i t' L' cap' hl;obtain⟨E0,⟨_,hE0⟩,_⟩:=h.own hl;have hd:∃sz,rQ (ν n) t'.size L'.length cap' sz:=by
    rcases hE0 with⟨hd,_⟩ | ⟨_,_,_,hd,_⟩
    ·exact⟨_,hd⟩
    ·exact⟨_,hd⟩
   obtain⟨sz,hd⟩:=hd;intro k o n c z hk;rcases hd with⟨e1,_⟩ | ⟨_,_,e1,_⟩
   ·rw[e1] at hk;cases hk
   ·rw[e1] at hk;cases hk;rfl
 | self=>
   simp only[Hg] at hs;split at hs<;>try (cases hs;done)
   ·rename_i b;split at hs<;>try (cases hs;done)
    rename_i f' cs hb;obtain⟨hq,hs2⟩:=aR hs;clear hs;simp only[aN,aL,aH] at hq;obtain⟨rfl,hq⟩:=hq;cases hs2;simp only[aJ] at hv;subst hv;obtain⟨E1,M1,⟨w,m,rfl,hm⟩,hw,hC⟩:=h.park hb;obtain⟨u,_,rfl,⟨a',c',rfl,h1,h2⟩,rfl⟩:=hm;simp only[bC] at h1;subst h1;have:=jc7 hq h2 hcv;subst this;exact⟨[],_,_,_,jnv hC,λ_ h=>(by cases h),λy hy=>aZ.2 (.inr hy),⟨⟨_,rfl,aZ.2 (.inl (bF.2 rfl))⟩,rfl⟩,trivial⟩
   ·rename_i b f' k cs;obtain⟨hq,hs2⟩:=aR hs;clear hs;simp only[aN,aL,aH] at hq;obtain⟨rfl,hq⟩:=hq;cases hs2;have hv0:=hv;obtain⟨rfl,c',h1,h2,h3⟩:=hv;have h4:=Xv k h3 hv0;rw[List.set_set] at h4;have h5:c'.set k (.ptr (ν b).1 0)=c':=by
     obtain⟨hk,h5⟩:=jG.1 h2;rw[<-h5,List.set_getElem_self]
    rw[h5] at h4;have:=jc7 hq h4 hcv;subst this;exact⟨[],F,M,R,h,λ_ h=>(by cases h),λ_ h=>h,⟨⟨_,rfl,h1⟩,rfl⟩,trivial⟩
def jqx {f:FuncId} {caps:List SV} {nc:Nat}:∀(ks:List Ak) {c:Cnv} {S:St} {F:aQ} {M R:List Ent} (h:ConX B ro e c S tm H nx ν F M R) {ss:List SV} {cc:Option Bool} {mv:bE} {x:Hv ks} (hs:Nt f caps nc ks S.mv ss=some (cc,mv,x)) (hc:dT cc=true) {vs:List AV} (hv:bC ν F ss vs) {cv:List AV} (hcv:bC ν F caps cv),
  ∃E F' M' R',ConX B ro e (c.park E) { S with mv:=mv } tm H nx ν F' M' R'/\(∀x∈E,x.w=true)/\(∀x∈F,x∈F')/\Wx F' f cv ks x vs E/\Xm ν nc ks ss vs
 | [],c,S,F,M,R,h,ss,cc,mv,x,hs,hc,vs,hv,cv,hcv=>by
   simp only[Nt] at hs;split at hs<;>cases hs
   exact⟨[],F,M,R,h,λ_ h=>(by cases h),λ_ h=>h,⟨hv,rfl⟩,rfl,hv⟩
 | k::ks,c,S,F,M,R,h,ss,cc,mv,x,hs,hc,vs,hv,cv,hcv=>by
   simp only[Nt] at hs;split at hs<;>try (cases hs;done)
   rename_i s ss;split at hs<;>try (cases hs;done)
   rename_i c1 mv1 x1 h1;split at hs<;>try (cases hs;done)
   rename_i c2 mv2 x2 h2;cases hs;rw[Ks] at hc;obtain⟨v,vs',rfl,v1,v2⟩:=hv;obtain⟨E1,F1,M1,R1,k1,k2,k3,k4,k5⟩:=j8w h h1 hc.1 v1 hcv;obtain⟨E2,F2,M2,R2,j1,j2,j3,j4,j5⟩:=jqx ks (S:={ S with mv:=mv1 }) k1 h2 hc.2 (jT k3 _ _ v2) (jT k3 _ _ hcv);rw[Sq] at j1;refine⟨E2++E1,F2,M2,R2,j1,λy hy=>?_,λy hy=>j3 y (k3 y hy),⟨v,vs',E1,E2,rfl,rfl,jt3 j3 k k4,j4⟩,s,ss,v,vs',rfl,rfl,k5,j5⟩;rcases aZ.1 hy with hy | hy
   ·exact j2 y hy
   ·exact k2 y hy
def jcs:(k:Ak)->k.rden->SV->Env->St->Option St
 | .cell r,y,s,e,S=>match s with
   | .ptr b 0=>match xH r y e S with
     | some (l,S1)=>some { S1 with mv:=(b,.lit l)::S1.mv }
     | none=>none
   | _=>none
 | .row t,y,s,e,S=>match s with
   | .own n=>some { S with mv:=(n,.arr t y.1 y.2)::S.mv }
   | _=>none
 | .v _,_,_,_,S | .pd _,_,_,_,S | .self,_,_,_,S=>some S
def Lc:(ks:List Ak)->Cq ks->List SV->Env->St->Option St
 | [],_,ss,e,S=>match ss with
   | []=>some S
   | _=>none
 | k::ks,y,ss,e,S=>match ss with
   | s::ss=>match jcs k y.1 s e S with
     | some S1=>Lc ks y.2 ss e S1
     | none=>none
   | _=>none
def j49 {k:Ak} {E:List Ent} (h:ConX B ro e (c.park E) S tm H nx ν F M R) {y:k.rden} {v:AV} (hr:Ov F k y v E) (hw:∀x∈E,x.w=true) {s:SV} {ν0:Nm} {nc:Nat} (hp:Xl ν0 nc k s v) (hn:∀b,b<nc->ν b=ν0 b) (hnc:nc<=S.nc) {S':St} (hs:jcs k y s e S=some S'):
  ∃ν' M',ConX B ro e c S' tm H nx ν' F M' R/\(∀b,b<S.nc->ν' b=ν b)/\S.nc<=S'.nc:=by
 cases k with
 | v r=>cases hs;cases hr;exact⟨ν,M,h,λ_ _=>rfl,aU _⟩
 | pd r=>cases hs;cases hr;exact⟨ν,M,h,λ_ _=>rfl,aU _⟩
 | self=>cases hs;cases hr;exact⟨ν,M,h,λ_ _=>rfl,aU _⟩
 | cell r=>
   obtain⟨b,rfl,e1,hb⟩:=hp;simp only[jcs] at hs;split at hs<;>cases hs
   rename_i l S1 hi;obtain⟨b',m,E',e2,rfl,hr⟩:=hr;rw[e1] at e2;have e2:(ν0 b).1=b':=by simpa using e2
   rw[<-Sq] at h;obtain⟨ν',M',k1,k2,k3,k4,k5⟩:=Jw r h hr (λx hx=>hw x (by simp[hx])) hi;have eb:(ν' b).1=b':=by rw[k3 b (by omega),hn b hb,e2]
   exact⟨ν',_,Nz k1 (b:=b) (sb:=.lit l) ⟨true,m,by rw[eb],k2⟩ (λx hx=>hw x (by simp at hx;simp[hx])),k3,k5⟩
 | row t=>
   obtain⟨n,rfl,e1,e2,hb⟩:=hp;cases hs;obtain⟨x,hx,h0,h1⟩:=hr;have e3:(ν n).2=x.2:=by rw[hn n hb,<-e1,hx]
   have e4:∀k o m c z,(ν n).2=.sl k o m c z->k=(ν n).1:=by rw[hn n hb];exact e2
   refine⟨ν,_,Nz h (b:=n) (sb:=.arr t y.1 y.2) ⟨h0,?_⟩ hw,λ_ _=>rfl,aU _⟩;have hd:∀ {sz:Option Nat},rQ x t.size (List.length (α:=t.den) y.1) y.2 sz->rQ (ν n) t.size (List.length (α:=t.den) y.1) y.2 sz/\((∃q,sz=some q)->(ν n).1=x.1):=by
    intro sz hd;rcases hd with⟨g1,g2,g3⟩ | ⟨c',q,g1,g2,g3⟩
    ·exact⟨.inl ⟨e3.trans g1,g2,g3⟩,fun⟨q,hq⟩=>by rw[g2] at hq;cases hq⟩
    ·have:=e4 _ _ _ _ _ (e3.trans g1);exact⟨.inr ⟨c',q,by rw[e3,<-this];exact g1,g2,g3⟩,λ_=>this.symm⟩
   rcases h1 with⟨g1,g2⟩ | ⟨w,m,g1,g2,g3⟩
   ·exact .inl ⟨(hd g1).1,g2⟩
   ·exact .inr ⟨w,m,by rw[(hd g2).2 ⟨_,rfl⟩];exact g1,(hd g2).1,g3⟩
def joa:∀(ks:List Ak) {e:Env} {c:Cnv} {S:St} {ν:Nm} {M E:List Ent} (h:ConX B ro e (c.park E) S tm H nx ν F M R) {y:Cq ks} {vs:List AV} (hr:Cx F ks y vs E) (hw:∀x∈E,x.w=true) {ss:List SV} {ν0:Nm} {nc:Nat} (hp:Xm ν0 nc ks ss vs) (hn:∀b,b<nc->ν b=ν0 b) (hnc:nc<=S.nc) {S':St} (hs:Lc ks y ss e S=some S'),
  ∃ν' M',ConX B ro e c S' tm H nx ν' F M' R
 | [],e,c,S,ν,M,E,h,y,vs,⟨hv,hE⟩,hw,ss,ν0,nc,hp,hn,hnc,S',hs=>by
   subst hE;simp only[Lc] at hs;split at hs<;>cases hs
   exact⟨ν,M,h⟩
 | k::ks,e,c,S,ν,M,E,h,y,vs,⟨a,vs',E1,E2,hv,hE,h1,h2⟩,hw,ss,ν0,nc,hp,hn,hnc,S',hs=>by
   subst hE;obtain⟨s,ss',v,vs2,rfl,hv2,p1,p2⟩:=hp;rw[hv] at hv2;cases hv2;simp only[Lc] at hs;split at hs<;>try (cases hs;done)
   rename_i S1 hs1;have h':ConX B ro e ((c.park E2).park E1) S tm H nx ν F M R:=by
    have:=h.reP (P':=E1++(E2++c.P)) (by
     show(E1++(E2++c.P)).Perm ((E2++E1)++c.P);rw[<-cD];exact vP _ Bb)
    exact this
   obtain⟨ν1,M1,k1,k2,k3⟩:=j49 h' h1 (λx hx=>hw x (by simp[hx])) p1 hn hnc hs1;exact joa ks k1 h2 (λx hx=>hw x (by simp[hx])) p2 (λb hb=>by rw[k2 b (by omega),hn b hb]) (by omega) hs
def Yq {α:Type} (t:TR) (ss:List SV) (e:Env) (S:St) (k:SV->St->Option α):Option α:=
 match Nt t.f (ss.drop t.np) S.nc t.ks S.mv ss with
 | some (c,mv,a)=>lF c ((t.run a).bind λr=>match sG t.outs r.1 e { S with mv:=mv } with
    | some (rs,S1)=>match Lc t.ks r.2 ss { e with ov:=rs++e.ov } S1 with
      | some S2=>k (yD rs) S2
      | none=>none
    | none=>none)
 | none=>none
def jxc {t:TR} (ht:t.OK B call) {α:Type} {ss:List SV} {k:SV->St->Option α} {r:α} (hs:Yq t ss e S k=some r) (h:ConX B ro e c S tm H nx ν F M R) {vs:List AV} (hv:bC ν F ss vs):
  ∃v H' nx' s S' ν' F' M' R',call t.f vs H nx ro=some (v,H',nx')/\ConX B ro e c S' tm H' nx' ν' F' M' R'/\aJ ν' F' s v/\k s S'=some r:=by
 unfold Yq at hs;split at hs<;>try (cases hs;done)
 rename_i cc mv a ha;obtain⟨hc,hs⟩:=nA hs;obtain⟨⟨y,z⟩,hy,hs⟩:=dN.1 hs;split at hs<;>try (cases hs;done)
 rename_i rs S1 hi;split at hs<;>try (cases hs;done)
 rename_i S2 hput;obtain⟨E0,F1,M1,R1,q1,q2,q3,q4,q5⟩:=jqx t.ks h ha hc hv (nY t.np hv);have p0:(M1++(c.Mc++(R1++(c.park E0).O0))).Perm (E0++(M1++(c.Mc++(R1++c.O0)))):=by
  have e1:(c.park E0).O0=E0++c.O0:=by simp[Cnv.O0,Cnv.park]
  rw[e1];have p1:(R1++(E0++c.O0)).Perm (E0++(R1++c.O0)):=fW R1 E0 _;have p2:(c.Mc++(R1++(E0++c.O0))).Perm (E0++(c.Mc++(R1++c.O0))):=(dW c.Mc p1).trans (fW c.Mc E0 _);exact(dW M1 p2).trans (fW M1 E0 _)
 have hk:HK B ro (E0++(M1++(c.Mc++(R1++c.O0)))) H nx:=q1.hk.perm p0.symm;have hA:∀x∈F1,Has (M1++(c.Mc++(R1++c.O0))) x.1 x.2\/iW B x:=λx hx=>by
  rcases q1.fz x hx with h1 | h1
  ·obtain⟨w,hm⟩:=h1.mem;left;exact Has.of_mem (w:=w) (by
    simp only[Cnv.O0];rcases aZ.1 hm with h2 | h2
    ·simp[h2]
    ·have h3:(⟨x.1,w,x.2⟩:Ent)∈c.OF:=h2;simp[h3])
  ·exact .inr h1
 obtain⟨v,E,Er,N,H',nx',F',k1,k2,k3,k4,k5,k6⟩:=ht a y z hy ro _ E0 H nx hk q2 F1 hA vs q4;have hC:=Yr { S with mv:=mv } F1 M1 R1 F' E0 q1 (E++Er) N H' nx' (by rw[cD];exact k2) (λx hx=>by
  rcases k4 x hx with h1 | h1 | h1
  ·exact .inl (Has.append_left h1)
  ·exact(q1.fz x h1).imp (λh=>Has.append_right h) id
  ·exact .inr h1)
 rw[<-Sq] at hC;have up:∀x∈F',x∈F'++F1:=λx hx=>aZ.2 (.inl hx)
 obtain⟨us,rfl,k5⟩:=k5;obtain⟨ν1,M2,j1,j2,j3,j4,j5⟩:=Jy t.outs hC (Pc up k5) (λx hx=>k3 x (by simp[hx])) hi;have j1':ConX B ro { e with ov:=rs++e.ov } (({ c with oa:=us++c.oa }:Cnv).park Er) S1 tm H' nx' ν1 (F'++F1) M2 (N++R1):=
  ⟨j1.hk,j1.fr,nX j2 j1.ov,j1.mv,j1.wr,j1.mc,j1.fz,j1.gl⟩
 obtain⟨ν2,M3,g1⟩:=joa t.ks j1' (jfw up k6) (λx hx=>k3 x (by simp[hx])) q5 (λb hb=>j3 b hb) j5 hput;obtain⟨g2,g3⟩:=Ie (jL j2) g1.ov;exact⟨_,H',nx',_,S2,ν2,_,M3,_,k1,⟨g1.hk,g1.fr,g3,g1.mv,g1.wr,g1.mc,g1.fz,g1.gl⟩,jcj g2,hs⟩
def Qr:List TR->FuncId->Option TR
 | [],_=>none
 | t::r,f=>bif Nat.beq t.f f then some t else Qr r f
def jjo:∀ {T:List TR} {f:FuncId} {t:TR},Qr T f=some t->t∈T/\t.f=f
 | [],f,t,h=>by cases h
 | t'::r,f,t,h=>by
   simp only[Qr] at h;cases hb:Nat.beq t'.f f<;>rw[hb] at h<;>simp only[aB,aF] at h
   ·obtain⟨h1,h2⟩:=jjo h;exact⟨bX _ h1,h2⟩
   ·cases h;rw[aL,aH] at hb;exact⟨bY ..,hb⟩
def Ws (T:List TR) (ch:CH):CH:=λα q f ss e S k=>match Qr T f with
 | some t=>sw q none (Yq t ss e S k)
 | none=>ch α q f ss e S k
def jqw {T:List TR} (hT:∀t∈T,t.OK B call) {ch:CH} (hch:mY B call ch):mY B call (Ws T ch):=by
 intro α q f ss e S k r hs ro c tm H nx ν F M R h vs hv;unfold Ws at hs;split at hs
 ·rename_i t ht;obtain⟨h1,rfl⟩:=jjo ht;obtain⟨hq,hs⟩:=Nb hs;subst hq;exact jxc (hT t h1) hs h hv
 ·exact hch α q f ss e S k r hs ro c tm H nx ν F M R h vs hv
variable {memo:dX} {prog:Tr CFn}
def Dx (N:Nat) (T:List TE) (T2:List TR) (C:List (FuncId×Fx)):Nat->CH
 | 0=>Ws T2 (Hf T noC)
 | d+1=>Ws T2 (Hf T (Rb N (Jo C) (Dx N T T2 C d)))
def qA (B:Base) (memo:dX) (prog:Tr CFn) (m:Nat) (T:List TR):Prop:=∀t∈T,∀n,m<=n->t.OK B (iH B memo prog n)
def jkd {T:List TE} {T2:List TR} {C:List (FuncId×Fx)} {m:Nat} (hT:cE B memo prog m T) (hT2:qA B memo prog m T2) (hC:rP memo prog C):∀d n,m+d<=n->mY B (iH B memo prog n) (Dx fuel T T2 C d)
 | 0,n,h=>jqw (λt ht=>hT2 t ht n (by omega)) (Wr (λt ht=>hT t ht n (by omega)) jms)
 | d+1,n+1,h=>jqw (λt ht=>hT2 t ht _ (by omega)) (Wr (λt ht=>hT t ht _ (by omega)) (jkt (jkd hT hT2 hC d n (by omega)) λf x hx vs H nx ro=>by
    obtain⟨h1,h2⟩:=hC _ (jad hx);simp only[iH,h1 vs,h2]))
def jag {T:List TE} {T2:List TR} {C:List (FuncId×Fx)} {m d:Nat} (hT:cE B memo prog m T) (hT2:qA B memo prog m T2) (hC:rP memo prog C) {G:bE} (hG:GRel B vG G) {f:FuncId} {x:Fx} (hx:(∀vs,memo f vs=none)/\prog.get f=some x.cfn) {ins outs:List Rep}
  {run:eE ins->Option (eE outs)} (hr:∀a,lP fuel (Dx fuel T T2 C d) G x ins outs a=run a):cE B memo prog (m+d+1) [⟨f,ins,outs,run⟩]:=by
 intro t ht n hn;rw[bF.1 ht]
 match n,hn with
 | n+1,hn=>
   have h1:=jo8 (jkd hT hT2 hC d n (by omega)) hG (x:=x) (ins:=ins) (outs:=outs) (f:=f) (call':=iH B memo prog (n+1)) (λvs H nx ro=>by simp only[iH,hx.1 vs,hx.2]);have e:run=lP fuel (Dx fuel T T2 C d) G x ins outs:=funext λa=>(hr a).symm
   rw[e];exact h1
def Xi {m:Nat}:qA B memo prog m []:=λt ht=>by cases ht
def Xh {m:Nat} {t:TR} {T:List TR} (h:qA B memo prog m [t]) (h':qA B memo prog m T):qA B memo prog m (t::T):=λu hu n hn=>by
 rcases bL.1 hu with rfl | hu
 ·exact h _ (bF.2 rfl) n hn
 ·exact h' u hu n hn
def Xj {m m':Nat} {T:List TR} (h:qA B memo prog m T) (hm:m<=m'):qA B memo prog m' T:=λt ht n hn=>h t ht n (by omega)
end X
end Go.Vm
namespace Go.Vm
namespace X
open W
variable {B:Base} {memo:dX} {prog:Tr CFn} {ro:Nat} {O:List Ent} {H:Tr Blk} {nx:Nat} {F:aQ}
def take_at {c:Tr AV}:∀ {l:List AV} {i:Nat},(∀j,j<l.length->c.get (i+j)=l[j]?)->take c i l.length=some l
 | [],i,h=>rfl
 | a::l,i,h=>by
   have h0:=h 0 (by simp);rw[iV] at h0;have:=take_at (c:=c) (l:=l) (i:=i+1) λj hj=>by
    have:=h (j+1) (by simpa using hj);rw[show i+1+j=i+ (j+1) by omega];simpa using this
   simp only[dG,take];rw[h0];simp only[pR,this]
end X
end Go.Vm
namespace Go.Vm
namespace X
open W
variable {B:Base} {memo:dX} {prog:Tr CFn} {ro:Nat} {O:List Ent} {H:Tr Blk} {nx:Nat} {F:aQ}
def Ty.dat:Ty->Bool
 | .int _ | .bool=>true
 | .prod a b=>a.dat&&b.dat
 | _=>false
def Zj {F:aQ}:∀(t:Ty),t.dat=true->∀(x:t.den) (l:List AV),aX F t x l->l=iZ t x
 | .int k,_,x,l,h=>h
 | .bool,_,x,l,h=>h
 | .prod a b,h,x,l,⟨l1,l2,e,h1,h2⟩=>by
   simp only[Ty.dat,aN] at h;rw[e,Zj a h.1 _ _ h1,Zj b h.2 _ _ h2,iZ]
def Qf {F:aQ}:∀(t:Ty),t.dat=true->∀x:t.den,aX F t x (iZ t x)
 | .int k,_,x=>rfl
 | .bool,_,x=>rfl
 | .prod a b,h,x=>by
   simp only[Ty.dat,aN] at h;exact⟨_,_,rfl,Qf a h.1 x.1,Qf b h.2 x.2⟩
def Qe:∀(t:Ty),t.dat=true->∀x:t.den,(iZ t x).all uW=true
 | .int k,_,x=>rfl
 | .bool,_,x=>rfl
 | .prod a b,h,x=>by
   simp only[Ty.dat,aN] at h;rw[iZ,Bm,Qe a h.1,Qe b h.2];rfl
def Zm:∀(t:Ty),t.dat=true->∀x:t.den,(iZ t x).all hZ=true
 | .int k,_,x=>rfl
 | .bool,_,x=>rfl
 | .prod a b,h,x=>by
   simp only[Ty.dat,aN] at h;rw[iZ,Bm,Zm a h.1,Zm b h.2];rfl
def fN (t:Ty) (L:List t.den):List AV:=L.flatMap (iZ t)
def ji5 {F:aQ} {t:Ty} (ht:t.dat=true):∀ {L:List t.den} {l:List AV},bO (aX F t) L l->l=fN t L
 | [],l,h=>h
 | x::L,l,⟨l1,l2,e,h1,h2⟩=>by
   rw[e,Zj t ht _ _ h1,ji5 ht h2];unfold fN;rw[lM]
def Zo {F:aQ} {t:Ty} (ht:t.dat=true):∀(L:List t.den),bO (aX F t) L (fN t L)
 | []=>rfl
 | x::L=>⟨_,_,by unfold fN;rw[lM],Qf t ht x,Zo ht L⟩
def Zn {t:Ty} (ht:t.dat=true) (L:List t.den):(fN t L).length=L.length*t.size:=
 jK (λx l h=>cV (F:=[]) _ _ _ h) (Zo (F:=[]) ht L)
def jx7 {t:Ty} (ht:t.dat=true) (L:List t.den):(fN t L).all uW=true:=by
 unfold fN;rw[List.all_flatMap];exact bS.2 λx _=>Qe t ht x
def jx8 {t:Ty} (ht:t.dat=true) (L:List t.den):(fN t L).all hZ=true:=by
 unfold fN;rw[List.all_flatMap];exact bS.2 λx _=>Zm t ht x
def jd4 {t:Ty} (ht:t.dat=true) {sv:List AV->Option (List AV)} {srt:List t.den->List t.den} {ok:List t.den->Bool} (hsl:∀L,(srt L).length=L.length) (hsv:∀L,ok L=true->sv (fN t L)=some (fN t (srt L))) {f fc:FuncId} (hm:∀az g,tG t.size sv f fc f az=some g->memo f az=some g):
  qA B memo prog 1 [⟨f,2,[.row t,.v (.fn fc)],[],λa=>(bif(List.length (α:=t.den) a.1.1).ble 1000000&&ok a.1.1 then some (srt a.1.1) else none).map λl=>((),((l,a.1.2),((),())))⟩]:=by
 intro tt htt n hn;rw[bF.1 htt]
 match n,hn with
 | n+1,_=>
 intro a r y hr ro O E0 H nx hk hw A hA vs hv;obtain⟨⟨L,cp⟩,u,w0⟩:=a;simp only[cX] at hr;obtain⟨M,hM,hr⟩:=hr;cases hr;obtain⟨hc,hM⟩:=aR hM;cases hM;rw[aN,aP,aH] at hc;obtain⟨hc,hokL⟩:=hc;obtain⟨v1,vs1,E1,E2,rfl,rfl,h1,v2,vs2,E3,E4,rfl,rfl,h2,rfl,rfl⟩:=hv;obtain⟨rfl,rfl⟩:v2=.fn (.func fc) [] []/\E3=[]:=by
  obtain⟨h2,h3⟩:=h2;cases h2;exact⟨rfl,h3⟩
 have hcall:∀g,memo f [v1,.fn (.func fc) [] []]=some g->iH B memo prog (n+1) f [v1,.fn (.func fc) [] []] H nx ro=g H nx ro:=λg hg=>by
  simp only[iH,hg];rw[aK hk.base]
 have hmm0:tG t.size sv f fc f [.nils,.fn (.func fc) [] []]=some (λH nx _=>some (.tup [],H,nx)):=by
  unfold tG;rw[aL,cK rfl,aB];show(bif Nat.beq fc fc then _ else _)=_;rw[aL,cK rfl,aB]
 have hmm1:∀b o n cap,tG t.size sv f fc f [.sl b o n cap t.size,.fn (.func fc) [] []]=some (λH nx ro=>match n with
   | 0=>some (.tup [],H,nx)
   | n+1=>Gt t.size sv ro H nx b o (n+1)):=λb o n cap=>by
  unfold tG;rw[aL,cK rfl,aB];show(bif Nat.beq fc fc&&Nat.beq t.size t.size then _ else _)=_;rw[aL,aL,cK rfl,cK rfl,kH,aB];rfl
 obtain⟨x,rfl,hz,hB⟩:=h1;simp only[dZ] at hk hw;have done0:L=[]->memo f [x.2,.fn (.func fc) [] []]=some (λH nx _=>some (.tup [],H,nx))\/(∃g,memo f [x.2,.fn (.func fc) [] []]=some g/\g H nx ro=some (.tup [],H,nx))->∃v E Er N H' nx' F',iH B memo prog (n+1) f [x.2,.fn (.func fc) [] []] H nx ro=some (v,H',nx')/\HK B ro (E++(Er++(N++O))) H' nx'/\(∀x∈E++Er,x.w=true)/\(∀x∈F',Has N x.1 x.2\/x∈A\/iW B x)/\uK F' [] () v E/\Cx F' [.row t,.v (.fn fc)] ((srt L,cp),((),())) [x.2,.fn (.func fc) [] []] Er:=by
  intro hL hmm;subst hL;have hs0:srt []=[]:=yF.1 (hsl []);rw[hs0];have hg:∃g,memo f [x.2,.fn (.func fc) [] []]=some g/\g H nx ro=some (.tup [],H,nx):=by
   rcases hmm with h | h
   ·exact⟨_,h,rfl⟩
   ·exact h
  obtain⟨g,hg,hg2⟩:=hg;refine⟨.tup [],[],E1,[],H,nx,A,by rw[hcall g hg,hg2],hk,hw,λx hx=>.inr (.inl hx),⟨[],rfl,rfl,rfl⟩,x.2,[.fn (.func fc) [] []],E1,[],rfl,rfl,⟨x,rfl,hz,hB⟩,_,[],[],[],rfl,rfl,rfl,rfl,rfl⟩
 rcases hB with⟨hd,rfl⟩ | ⟨w,m,rfl,hd,hrel,hone⟩
 ·rcases hd with⟨e1,_,e2,_⟩ | ⟨_,_,_,e,_⟩
  ·have hL:L=[]:=yF.1 e2;refine done0 hL (.inl (hm _ _ ?_));rw[e1];exact hmm0
  ·cases e
 ·rcases hd with⟨_,e,_⟩ | ⟨cap,k,e1,e2,e3,e4,e5⟩
  ·cases e
  ·cases e2;by_cases hL:L=[]
   ·refine done0 hL (.inr ⟨_,hm _ _ (by rw[e1];exact hmm1 _ _ _ _),by subst hL;rfl⟩)
   ·have hw1:w=true:=hw _ (bF.2 rfl);subst hw1;have hent:=hk.ent ⟨x.1,true,.cells m⟩ (by simp);have hrx:=hent.2.1 rfl;simp only at hrx;obtain⟨c,g1,g2⟩:=hent.2.2;simp only at g1 g2;have hlen:L.length*t.size<=m.length:=by
     have e3:L.length*t.size<=m.length:=e3;exact e3
    have hrel':bO (aX A t) L (m.take (L.length*t.size)):=hrel;have em:=ji5 ht hrel';have hml:(m.take (L.length*t.size)).length=L.length*t.size:=by rw[yG];omega
    have htk:take c 0 (m.take (L.length*t.size)).length=some (m.take (L.length*t.size)):=take_at λj hj=>by
     rw[hml] at hj;rw[iC,g2 j (by omega),rD,aK (by omega)]
    rw[hml,em] at htk;have hn0:0<L.length:=by
     cases L with
     | nil=>exact absurd rfl hL
     | cons a l=>simp
    have hls:=hsl L;have hel:(fN t (srt L)).length=L.length*t.size:=by rw[Zn ht,hls]
    have hsort:Gt t.size sv ro H nx x.1 0 L.length=some (.tup [],H.set x.1 (.cells (put (fN t (srt L)) 0 c) m.length),nx):=by
     unfold Gt;simp only[g1];rw[show((rx ro).ble x.1&&(1:Nat).ble L.length&&L.length.ble 1000000)=true by simp only[aN,aP,aH];exact⟨⟨hrx,hn0⟩,hc⟩];rw[aB,show(0+L.length*t.size).ble m.length=true by simp only[aP,aH];omega,aB];simp only[htk,jx7 ht,aB,hsv L hokL];rw[show((true&&(fN t (srt L)).length.beq (L.length*t.size)))=true by rw[hel,sV,aL,cK rfl],aB]
    have hk':=hk.upd (c':=.cells (fN t (srt L)++m.drop (L.length*t.size))) .here (.cells (put (fN t (srt L)) 0 c) m.length) ⟨put (fN t (srt L)) 0 c,by rw[Tr.get_set,aK rfl,dS,hel,tZ];congr 2;omega,λi hi=>by
     rw[mP,hel,qfs,hel,iC,nN];by_cases hc:i<L.length*t.size
     ·rw[aK ⟨fM _,hc⟩,aK hc]
     ·rw[aD (λh=>hc h.2),aD hc,sM,show L.length*t.size+ (i-L.length*t.size)=i by omega];rw[dS,hel,tZ] at hi;exact g2 i (by omega)⟩
    have hln:(fN t (srt L)++m.drop (L.length*t.size)).length=m.length:=by
     rw[dS,hel,tZ];omega
    refine⟨.tup [],[],_,[],_,nx,A,?_,hk',λy hy=>by rw[bF.1 hy],λx hx=>.inr (.inl hx),⟨[],rfl,rfl,rfl⟩,x.2,[.fn (.func fc) [] []],_,[],rfl,rfl,⟨x,rfl,hz,.inr ⟨true,_,rfl,.inr ⟨cap,_,?_,rfl,?_,λk hk=>?_,λk hk=>e5 k hk⟩,?_,?_⟩⟩,_,[],[],[],rfl,rfl,rfl,rfl,rfl⟩
    ·obtain⟨k,hk2⟩:∃k,L.length=k+1:=⟨L.length-1,by omega⟩
     have:=hm [x.2,.fn (.func fc) [] []] _ (by rw[e1];exact hmm1 _ _ _ _);rw[hcall _ this]
     show(match List.length (α:=t.den) L with
      | 0=>_
      | k+1=>Gt t.size sv ro H nx x.1 0 (k+1))=_
     rw[hk2] at hsort ⊢;exact hsort
    ·show x.2=.sl x.1 0 (srt L).length cap _;rw[hls];exact e1
    ·show(srt L).length*_<=_;rw[hls,hln];exact hlen
    ·have:=e4 k hk;rw[hln];refine⟨this.1,?_⟩;show(srt L).length<=k;rw[hls];exact this.2
    ·show bO _ (srt L) (List.take ((srt L).length*_) _);rw[hls,qfo (by omega),iU (by omega)];exact Zo ht _
    ·rw[Bm,aN];exact⟨jx8 ht _,bS.2 λa ha=>bS.1 hone a (Lh ha)⟩
end X
end Go.Vm
namespace Go.Vm
namespace X
open W Go Go.RowKit Go.Shelf Go.Sort Go.Proofs
section sort
variable {α:Type} (cf:α->α->Int)
def Eb (x:α):List α->List α
 | []=>[x]
 | y::l=>bif decide (cf y x<0) then y::Eb x l else x::y::l
def sortC:List α->List α
 | []=>[]
 | x::l=>Eb cf x (sortC l)
def jao (x:α):∀l,(Eb cf x l).Perm (x::l)
 | []=>Ub _
 | y::l=>by
   simp only[Eb];cases decide (cf y x<0) with
   | true=>exact((jao x l).cons y).trans (List.Perm.swap x y l)
   | false=>exact Ub _
def sZ:∀l,(sortC cf l).Perm l
 | []=>Ub _
 | x::l=>(jao cf x _).trans ((sZ l).cons x)
def jku (hO:SWO (ltOf cf)) (x:α):∀ {l:List α},l.Pairwise (λa b=>¬cf b a<0)->(Eb cf x l).Pairwise (λa b=>¬cf b a<0)
 | [],_=>Fu _ _
 | y::l,h=>by
   have nt:∀a b c:α,¬cf b a<0->¬cf c b<0->¬cf c a<0:=λa b c h1 h2 h3=>by
    have:=hO.ntrans c b a (by unfold ltOf;exact pS h2) (by unfold ltOf;exact pS h1);unfold ltOf at this;exact of_decide_eq_false this h3
   simp only[Eb];rw[mT] at h;cases hc:decide (cf y x<0) with
   | false=>
     simp only[aF];have hc:=of_decide_eq_false hc;refine mT.2 ⟨λa ha=>?_,mT.2 h⟩;rcases bL.1 ha with rfl | ha
     ·exact hc
     ·exact nt _ _ _ hc (h.1 a ha)
   | true=>
     simp only[aB];have hc:=of_decide_eq_true hc;refine mT.2 ⟨λa ha=>?_,jku hO x h.2⟩;rcases bL.1 ((jao cf x l).subset ha) with rfl | ha
     ·intro c;have t:=hO.trans _ _ _ (show ltOf cf y _=true by unfold ltOf;exact cK hc) (show ltOf cf _ y=true by unfold ltOf;exact cK c);rw[hO.irrefl] at t;cases t
     ·exact h.1 a ha
def Vi (hO:SWO (ltOf cf)):∀l,(sortC cf l).Pairwise (λa b=>¬cf b a<0)
 | []=>List.Pairwise.nil
 | x::l=>jku cf hO x (Vi hO l)
def Mt:∀ {l m:List α} (_:∀x∈l,∀y∈l,¬cf x y<0->¬cf y x<0->x=y),l.Pairwise (λa b=>¬cf b a<0)->m.Pairwise (λa b=>¬cf b a<0)->l.Perm m->l=m
 | [],m,_,_,_,h=>(List.Perm.nil_eq h)
 | a::l,[],_,_,_,h=>by have:=h.length_eq;simp at this
 | a::l,b::m,h0,h1,h2,h=>by
   rw[mT] at h1 h2;have e:a=b:=by
    rcases bL.1 (h.subset (bY)) with e | e
    ·exact e
    ·rcases bL.1 (h.symm.subset (bY)) with e2 | e2
     ·exact e2.symm
     ·exact h0 _ (bY) _ (bX _ e2) (h2.1 a e) (h1.1 b e2)
   subst e;rw[Mt (λx hx y hy=>h0 x (bX _ hx) y (bX _ hy)) h1.2 h2.2 (List.Perm.cons_inv h)]
def uY:List α->Bool
 | []=>true
 | x::l=>(match l with
   | []=>true
   | y::_=>decide (cf x y<0))&&uY l
end sort
def uX:(t:Ty)->List AV->Option (t.den×List AV)
 | .int k,.int k' z::l=>if k=k' then some (z,l) else none
 | .bool,.bool b::l=>some (b,l)
 | .prod a b,l=>match uX a l with
   | some (x,l1)=>(match uX b l1 with
     | some (y,l2)=>some ((x,y),l2)
     | none=>none)
   | none=>none
 | _,_=>none
def Dn (t:Ty):Nat->List AV->Option (List t.den)
 | 0,[]=>some []
 | 0,_::_=>none
 | n+1,l=>match uX t l with
   | some (x,l1)=>(match Dn t n l1 with
     | some L=>some (x::L)
     | none=>none)
   | none=>none
def Zf:∀(t:Ty),t.dat=true->∀(x:t.den) (l:List AV),uX t (iZ t x++l)=some (x,l)
 | .int k,_,x,l=>by
   show(if k=k then some (x,l) else none)=_;rw[aK rfl]
 | .bool,_,x,l=>rfl
 | .prod a b,h,x,l=>by
   simp only[Ty.dat,aN] at h;rw[uX,iZ,cD,Zf a h.1];simp only[Zf b h.2]
def Zg:∀(t:Ty),t.dat=true->∀ {l:List AV} {x:t.den} {l':List AV},uX t l=some (x,l')->l=iZ t x++l'
 | .int k,_,l,x,l',h=>by
   match l,h with
   | .int k' z::l,h=>
     simp only[uX] at h;split at h
     ·rename_i e;subst e;cases h;rfl
     ·cases h
 | .bool,_,l,x,l',h=>by
   match l,h with
   | .bool b::l,h=>
     simp only[uX] at h;cases h;rfl
 | .prod a b,hd,l,x,l',h=>by
   simp only[Ty.dat,aN] at hd;rw[uX] at h;split at h<;>try (cases h;done)
   rename_i y l1 e1;split at h<;>try (cases h;done)
   rename_i z l2 e2;cases h;rw[Zg a hd.1 e1,Zg b hd.2 e2,iZ,cD]
def jiw {t:Ty} (ht:t.dat=true):∀L:List t.den,Dn t L.length (fN t L)=some L
 | []=>rfl
 | x::L=>by
   rw[dG,Dn,fN,lM,Zf t ht];have:=jiw ht L;unfold fN at this;simp only[this]
def jix {t:Ty} (ht:t.dat=true):∀ {n:Nat} {l:List AV} {L:List t.den},Dn t n l=some L->l=fN t L/\L.length=n
 | 0,[],L,h=>by cases h;exact⟨rfl,rfl⟩
 | 0,_::_,L,h=>by cases h
 | n+1,l,L,h=>by
   rw[Dn] at h;split at h<;>try (cases h;done)
   rename_i x l1 e1;split at h<;>try (cases h;done)
   rename_i L1 e2;cases h;obtain⟨h1,h2⟩:=jix ht e2;refine⟨?_,by rw[dG,h2]⟩;rw[Zg t ht e1,h1];unfold fN;rw[lM]
def Jf:∀ {t:Ty},t.dat=true->0<t.size
 | .int _,_=>Nat.one_pos
 | .bool,_=>Nat.one_pos
 | .prod a b,h=>by
   simp only[Ty.dat,aN] at h;have:=Jf h.1;rw[Ty.size];omega
def tE (t:Ty) (cf:t.den->t.den->Int) (ok:List t.den->Bool) (A:List AV):Option (List AV):=match Dn t (A.length / t.size) A with
 | some L=>bif ok L then some (fN t (sortC cf L)) else none
 | none=>none
def jdy {t:Ty} (ht:t.dat=true) {cf:t.den->t.den->Int} {ok:List t.den->Bool} (L:List t.den) (h:ok L=true):tE t cf ok (fN t L)=some (fN t (sortC cf L)):=by
 unfold tE;rw[Zn ht,Nat.mul_div_cancel _ (Jf ht),jiw ht];simp only[h,aB]
def j8b {t:Ty} (ht:t.dat=true) {cf:t.den->t.den->Int} {ok:List t.den->Bool} {n:Nat} {A A':List AV} (hl:A.length=n*t.size) (h:tE t cf ok A=some A'):∃L:List t.den,A=fN t L/\L.length=n/\A'=fN t (sortC cf L)/\ok L=true:=by
 unfold tE at h;rw[hl,Nat.mul_div_cancel _ (Jf ht)] at h;split at h<;>try (cases h;done)
 rename_i L e;obtain⟨h1,h2⟩:=jix ht e;obtain⟨h3,h⟩:=aR h;cases h;exact⟨L,h1,h2,rfl,h3⟩
def jjw {α β:Type} {f:α->List β} {k:Nat} (hk:∀x,(f x).length=k) (k0:0<k) (d:α):∀(L:List α) (i:Nat),i<L.length*k->(L.flatMap f)[i]?=(f (L.getD (i / k) d))[i%k]?
 | [],i,h=>by simp at h
 | x::L,i,h=>by
   rw[lM];by_cases c:i<k
   ·rw[Ld (by rw[hk];exact c),Nat.div_eq_of_lt c,Tq c];rfl
   ·obtain⟨j,rfl⟩:∃j,i=j+k:=⟨i-k,by omega⟩
    rw[Bc (by rw[hk];omega),hk,Nat.add_sub_cancel,jjw hk k0 d L j (by rw[dG,fU] at h;omega),Nat.add_div_right _ k0,Nat.add_mod_right];rfl
def kQ (t:Ty) (x:t.den):List Value:=(iZ t x).map nU
def Zq {t:Ty} (ht:t.dat=true) (x:t.den):(kQ t x).length=t.size:=by
 rw[kQ,dM];exact cV (F:=[]) t x _ (Qf t ht x)
def jyb {t:Ty} (ht:t.dat=true) (x:t.den):∀v∈kQ t x,v.oneCell'=true:=λv hv=>by
 obtain⟨a,ha,rfl⟩:=bU.1 hv;have:=bS.1 (Qe t ht x) a ha;cases a<;>first | rfl | (cases this;done)
def jju {t:Ty} (ht:t.dat=true) (L:List t.den):letI:Inhabited t.den:=⟨t.df⟩;(flatK (kQ t) t.size L.toArray).toList=(fN t L).map nU:=by
 letI:Inhabited t.den:=⟨t.df⟩
 have hp:=Jf ht;refine Bg λi=>?_
 by_cases hi:i<L.length*t.size
 ·have h1:i< (flatK (kQ t) t.size L.toArray).size:=by rw[size_flatK];simpa using hi
  rw[lZ,mA h1,<-getElem!_pos _ i h1,get_flatK _ _ _ _ (by simpa using hi)];have e:=jjw (f:=kQ t) (Zq ht) hp t.df L i hi;have e2:(fN t L).map nU=L.flatMap (kQ t):=by
   unfold fN kQ;rw[List.map_flatMap]
  rw[e2,e];have hq:i / t.size<L.length:=Nat.div_lt_of_lt_mul (by rw[Tu];exact hi);have e3:(L.toArray)[i / t.size]! =L.getD (i / t.size) t.df:=by
   rw[getElem!_pos _ _ (by simpa using hq),jF,dK hq];simp
  have hm:i%t.size< (kQ t (L.getD (i / t.size) t.df)).length:=by rw[Zq ht];exact Nat.mod_lt _ hp
  rw[e3,dK hm,getElem!_pos (kQ t (L.getD (i / t.size) t.df)) (i%t.size) hm]
 ·rw[tW,tW]
  ·rw[dM,Zn ht];omega
  ·rw[gS,size_flatK];simp;omega
def jo3 {P:Program} {ρ:Ren} (L0:SlLaysF0.n6 P ρ) {t:Ty} (ht:t.dat=true) (aE:∀w,(isAgg (ρ.t 24)).run P w=.ok true w) (zE:∀w,(Go.sizeOf (ρ.t 24)).run P w=.ok t.size w)
  {cf:t.den->t.den->Int} (hO:SWO (ltOf cf)) {ok:List t.den->Bool} (h0:∀L,ok L=true->∀x∈L,∀y∈L,¬cf x y<0->¬cf y x<0->x=y) {fc:Nat} (eg:∀args w,(callFunc fc args).run P w=.ok (.enter fc args) w)
  (hc:∀(x y:t.den) (w:World),Calls P fc #[.agg (kQ t x).toArray,.agg (kQ t y).toArray] w λe w'=>e=.returned (.int .i64 (cf x y))/\∃q os',w'=grow (w.drewN q) os'):W.RowK P t.size (tE t cf ok) (ρ.f 6) fc:=by
 letI:Inhabited t.den:=⟨t.df⟩
 intro blk off n c A A' w hA hn hn6 hnc hd hsv hd' hl' hcell;obtain⟨L,rfl,hL,rfl,hok⟩:=j8b ht hA hsv;have hp:=Jf ht;have hf:=jju ht L;have hsz:(flatK (kQ t) t.size L.toArray).size=n*t.size:=by rw[size_flatK];simp[hL]
 have hpos:0<n*t.size:=Nat.mul_pos hn hp;have hcell':∀j,j< (flatK (kQ t) t.size L.toArray).size->w.cell? ⟨blk,off+j,none⟩=some (flatK (kQ t) t.size L.toArray)[j]! /\w.frozen? ⟨blk,off+j,none⟩=false:=λj hj=>by
  refine hcell j _ ?_;rw[<-hf,lZ,mA hj,getElem!_pos _ j hj]
 have hblk:blk<w.heap.size:=block_lt_of_cell (hcell' 0 (by omega)).1;have h:=AnyQ.slices_SortFunc_eq L0 t.size aE zE (kQ t) (Zq ht) (jyb ht) cf hO fc #[] blk off c L.toArray w eg (λm os dk hdk x y=>hc x y _) hcell' hblk (by simp;omega);rw[show L.toArray.size=n by simpa using hL] at h;refine h.mono ?_;rintro e w' ⟨rfl,k,os,rfl⟩;have hps:=pdq_sorts (ltOf cf) hO L.toArray 0 n (Lib.bitLen n) true true (fM _) (by simp[hL]) (Or.inl rfl);obtain⟨⟨p1,_,p3⟩,p4⟩:=hps;generalize pdq (ltOf cf) L.toArray 0 n (Lib.bitLen n) true true=D at *;have hDs:D.size=n:=by rw[p1];simpa using hL
 have eD:D.toList=sortC cf L:=by
  refine(Mt cf (λx hx y hy=>h0 L hok x ((sZ cf L).subset hx) y ((sZ cf L).subset hy)) (Vi cf hO L) ?_ ?_).symm
  ·rw[pQ];intro i j hi hj hij;have hi':i<D.size:=by simpa using hi
   have hj':j<D.size:=by simpa using hj
   have:=p4 i j (fM _) hij (by omega);rw[getElem!_pos D i hi',getElem!_pos D j hj'] at this;unfold ltOf at this;simpa using of_decide_eq_false this
  ·have e2:D.extract 0 n=D:=by rw[<-hDs];simp
   have e3:L.toArray.extract 0 n=L.toArray:=by
    have:L.toArray.size=n:=by simpa using hL
    conv=>lhs;rw[<-this]
    simp
   rw[e2,e3] at p3;have p3':D.toList.Perm L:=by simpa using p3
   exact(sZ cf L).trans p3'.symm
 have hfD:=jju ht (sortC cf L);rw[<-eD] at hfD;rw[show D.toList.toArray=D from by simp] at hfD;have hDz:(flatK (kQ t) t.size D).size=n*t.size:=by rw[size_flatK,hDs]
 rw[<-eD];have hFl:((fN t D.toList).map nU).length=n*t.size:=by rw[<-hfD];simpa using hDz
 show _=_/\jgh w (grow (putRow id (Sort.ahead w k) blk off (flatK (kQ t) t.size D)) os) blk off _;generalize flatK (kQ t) t.size D=F at *;refine⟨rfl,rfl,rfl,rfl,by simp[putRow,mapBlock,Sort.ahead],λx hx hne=>?_,λcs e fr hb=>?_⟩
 ·rw[heap_grow_old _ _ (by simpa[putRow,mapBlock,Sort.ahead] using hx)];simp only[putRow,mapBlock,Sort.ahead,sQ,aD (λe=>hne (Eq.symm e))]
 ·refine⟨putCells id off F cs,?_,by simp[putCells],λj hj=>?_⟩
  ·rw[heap_grow_old _ _ (by simpa[putRow,mapBlock,Sort.ahead] using hblk)];simp only[putRow,mapBlock,Sort.ahead,sQ,bR,hb,eX,onCells]
  ·rw[hFl];simp only[putCells,Array.getElem?_mapIdx,mA hj,eX,hDz];by_cases hc:off<=j/\j<off+n*t.size
   ·rw[aK hc,aK hc,getElem!_pos F (j-off) (by omega),<-hfD,lZ,mA (by omega)];rfl
   ·rw[aD hc,aD hc]
end X
end Go.Vm
namespace Go.Vm
namespace X
open W Go Go.RowKit Go.Shelf Go.Sort Go.Lib Go.Proofs
abbrev dH:=Int×((Int×Int)×(Int×Int))
abbrev bQ:=Int×(Int×Int)
def Ch:Ty:=.prod (.int .u8) (.prod (.prod (.int .u8) (.int .i64)) (.prod (.int .i64) (.int .i64)))
def Vn:Ty:=.prod (.int .i64) (.prod (.int .u8) (.int .u8))
def c3 (a b:Int):Int:=bif decide (a<b) then -1 else bif decide (b<a) then 1 else 0
def lx (a b:Int):Int:=bif decide (a=0) then b else a
def jW (x y:dH):Int:=lx (c3 (wrap64 x.2.1.1) (wrap64 y.2.1.1)) (lx (c3 x.2.1.2 y.2.1.2) (c3 x.2.2.1 y.2.2.1))
def lE (x y:bQ):Int:=lx (c3 x.1 y.1) (c3 (wrap64 x.2.1) (wrap64 y.2.1))
def Iv {a b:Int}:c3 a b<0↔a<b:=by
 unfold c3;by_cases h:a<b
 ·simp[h]
 ·by_cases h2:b<a<;>simp[h,h2]
def Yn {a b:Int}:c3 a b=0↔a=b:=by
 unfold c3;by_cases h:a<b
 ·simp[h];omega
 ·by_cases h2:b<a<;>simp[h,h2]<;>omega
def jbw {a b:Int}:lx a b<0↔a<0\/a=0/\b<0:=by
 unfold lx;by_cases h:a=0
 ·simp[h]
 ·simp[h]
def Ja {x y:dH}:jW x y<0↔wrap64 x.2.1.1<wrap64 y.2.1.1\/wrap64 x.2.1.1=wrap64 y.2.1.1/\(x.2.1.2<y.2.1.2\/x.2.1.2=y.2.1.2/\x.2.2.1<y.2.2.1):=by
 unfold jW;rw[jbw,jbw,Iv,Iv,Iv,Yn,Yn]
def wX {x y:bQ}:lE x y<0↔x.1<y.1\/x.1=y.1/\wrap64 x.2.1<wrap64 y.2.1:=by
 unfold lE;rw[jbw,Iv,Iv,Yn]
def vI (L:List dH):Bool:=uY jW (sortC jW L)
def Ff (L:List bQ):Bool:=uY lE (sortC lE L)
def jd0:SWO (ltOf jW) where
 irrefl x:=by unfold ltOf;rw[eH,Ja];omega
 trans x y z h k:=by
  unfold ltOf at *;rw[aH,Ja] at *;omega
 ntrans x y z h k:=by
  unfold ltOf at *;rw[eH,Ja] at *;omega
def jdz:SWO (ltOf lE) where
 irrefl x:=by unfold ltOf;rw[eH,wX];omega
 trans x y z h k:=by
  unfold ltOf at *;rw[aH,wX] at *;omega
 ntrans x y z h k:=by
  unfold ltOf at *;rw[eH,wX] at *;omega
def ji0 {α:Type} {cf:α->α->Int} (hO:SWO (ltOf cf)):∀ {l:List α},uY cf l=true->l.Pairwise λa b=>cf a b<0
 | [],_=>List.Pairwise.nil
 | [x],_=>Fu _ _
 | x::y::l,h=>by
   simp only[uY,aN,aH] at h;have ih:=ji0 hO (l:=y::l) (by simp only[uY,aN];exact h.2);refine mT.2 ⟨λa ha=>?_,ih⟩;rcases bL.1 ha with rfl | ha
   ·exact h.1
   ·have:=(mT.1 ih).1 a ha;have:=hO.trans x y a (by unfold ltOf;exact cK h.1) (by unfold ltOf;exact cK this);unfold ltOf at this;exact of_decide_eq_true this
def jjh {α:Type} {cf:α->α->Int} (hO:SWO (ltOf cf)) {L:List α} (h:uY cf (sortC cf L)=true) (x:α) (hx:x∈L) (y:α) (hy:y∈L) (h1:¬cf x y<0) (h2:¬cf y x<0):x=y:=by
 have hp:=ji0 hO h;have hx:=(sZ cf L).symm.subset hx;have hy:=(sZ cf L).symm.subset hy;obtain⟨i,hi,rfl⟩:=mS hx;obtain⟨j,hj,rfl⟩:=mS hy;rw[pQ] at hp;rcases Bf i j with h | h | h
 ·exact absurd (hp i j hi hj h) h1
 ·subst h;rfl
 ·exact absurd (hp j i hj hi h) h2
def eqG (L:List dH) (h:vI L=true) (x:dH) (hx:x∈L) (y:dH) (hy:y∈L) (h1:¬jW x y<0) (h2:¬jW y x<0):x=y:=jjh jd0 h x hx y hy h1 h2
def eqC (L:List bQ) (h:Ff L=true) (x:bQ) (hx:x∈L) (y:bQ) (hy:y∈L) (h1:¬lE x y<0) (h2:¬lE y x<0):x=y:=jjh jdz h x hx y hy h1 h2
def jcu {α:Type} {cf:α->α->Int}:∀ {l:List α},(l.Pairwise λa b=>cf a b<0)->uY cf l=true
 | [],_=>rfl
 | x::l,h=>by
   obtain⟨h1,h2⟩:=mT.1 h;simp only[uY,aN];refine⟨?_,jcu h2⟩;cases l with
   | nil=>rfl
   | cons y l=>exact cK (h1 y (bY ..))
end X
end Go.Vm
namespace Go.Vm
namespace X
open W
def rL (p:Int×Int) (x:Nat):Int×Int:=((p.1+x)%65521,(p.2+ (p.1+x)%65521)%65521)
def mH (s:List Nat):Int×Int:=s.foldl rL (1,0)
def dE (s:List Nat):Int:=((mH s).2+17* (mH s).1)%65521
def Bz:List Nat->Int
 | []=>0
 | x::l=>x+Bz l
def Cb:List Nat->Int
 | []=>0
 | x::l=>x* (l.length+1:Int)+Cb l
def jqf:∀(l:List Nat) (a b:Int),∃k m:Int,(l.foldl rL (a,b)).1=a+Bz l+65521*k/\(l.foldl rL (a,b)).2=b+l.length*a+Cb l+65521*m
 | [],a,b=>⟨0,0,by simp[Bz],by simp[Cb]⟩
 | x::l,a,b=>by
   obtain⟨k,m,h1,h2⟩:=jqf l ((a+x)%65521) ((b+ (a+x)%65521)%65521);rw[Ll];show ∃k m:Int,(l.foldl rL ((a+x)%65521,(b+ (a+x)%65521)%65521)).1=_/\(l.foldl rL ((a+x)%65521,(b+ (a+x)%65521)%65521)).2=_;rw[h1,h2];obtain⟨q,hq⟩:∃q:Int,(a+x)%65521=a+x+65521*q:=⟨-((a+x) / 65521),by omega⟩
   rw[hq];obtain⟨r,hr⟩:∃r:Int,(b+ (a+x+65521*q))%65521=b+ (a+x+65521*q)+65521*r:=⟨-((b+ (a+x+65521*q)) / 65521),by omega⟩
   rw[hr];refine⟨k+q,m+r+q+l.length*q,?_,?_⟩
   ·simp only[Bz];omega
   ·simp only[Cb,dG];have e1:(l.length:Int)* (a+x+65521*q)=l.length*a+l.length*x+65521* (l.length*q):=by
     rw[Tz,Tz,Int.mul_left_comm]
    have e2:(x:Int)* (l.length+1)=l.length*x+x:=by rw[Tz,Int.mul_one,Int.mul_comm]
    have e3:((l.length+1:Nat):Int)*a=l.length*a+a:=by
     rw[Int.natCast_add,Int.add_mul];simp
    rw[e1,e2,e3];omega
def Lz (n:Int) (p:Int×Int) (x:Nat):Int×Int:=((p.1+1+x* (17+n-p.2))%65521,p.2+1)
def jox:∀(l:List Nat) (n r i:Int),n-i=l.length->∃k:Int,(l.foldl (Lz n) (r,i)).1=r+l.length+Cb l+17*Bz l+65521*k
 | [],n,r,i,_=>⟨0,by simp[Bz,Cb]⟩
 | x::l,n,r,i,h=>by
   simp only[dG] at h;obtain⟨k,h1⟩:=jox l n ((r+1+x* (17+n-i))%65521) (i+1) (by omega);rw[Ll];show ∃k:Int,(l.foldl (Lz n) ((r+1+x* (17+n-i))%65521,i+1)).1=_;rw[h1];obtain⟨q,hq⟩:∃q:Int,(r+1+x* (17+n-i))%65521=r+1+x* (17+n-i)+65521*q:=⟨-((r+1+x* (17+n-i)) / 65521),by omega⟩
   rw[hq];refine⟨k+q,?_⟩;have e1:(x:Int)* (17+n-i)=x* (l.length+1)+17*x:=by
    rw[show(17+n-i:Int)=(l.length+1)+17 by omega,Tz,Int.mul_comm (x:Int) 17]
   simp only[Cb,Bz,dG];rw[e1];omega
def j8a (s:List Nat):dE s=(s.foldl (Lz s.length) (17,0)).1%65521:=by
 obtain⟨k,m,h1,h2⟩:=jqf s 1 0;obtain⟨j,h3⟩:=jox s s.length 17 0 (by omega);unfold dE mH;rw[h1,h2,h3];omega
def rK (s:List Nat):0<=dE s/\dE s<65521:=by unfold dE;omega
def jqe (s:List Nat):(0<=(mH s).1/\(mH s).1<65521)/\0<=(mH s).2/\(mH s).2<65521:=by
 unfold mH;have key:∀(l:List Nat) (p:Int×Int),((0<=p.1/\p.1<65521)/\0<=p.2/\p.2<65521)->((0<=(l.foldl rL p).1/\(l.foldl rL p).1<65521)/\0<=(l.foldl rL p).2/\(l.foldl rL p).2<65521):=by
  intro l;induction l with
  | nil=>exact λp h=>h
  | cons x l ih=>exact λp h=>ih _ (by simp only[rL];omega)
 exact key s (1,0) (by decide)
def j78 (s:List Nat) (x:Nat):mH (s++[x])=rL (mH s) x:=by unfold mH;rw[qgk];rfl
def eT:List Nat->List (List Nat)
 | []=>[]
 | x::s=>bif x.beq 10 then [10]::eT s else match eT s with
   | []=>[[x]]
   | w::ws=>(x::w)::ws
def Ki {s:List Nat}:eT s=[]↔s=[]:=by
 cases s with
 | nil=>simp[eT]
 | cons x s=>
   simp only[eT];cases x.beq 10<;>simp only[aB,aF]
   ·split<;>simp
   ·simp
def jlp:∀s:List Nat,(eT s).flatten=s
 | []=>rfl
 | x::s=>by
   have ih:=jlp s;simp only[eT];cases h:x.beq 10<;>simp only[aB,aF]
   ·split
    ·rename_i e;rw[Ki] at e;subst e;rfl
    ·rename_i w ws e;rw[e] at ih;simpa using ih
   ·have:x=10:=rB h;subst this;simp[ih]
def jbl:∀ {a b:List Nat},10∉a->eT (a++10::b)=(a++[10])::eT b
 | [],b,_=>rfl
 | x::a,b,h=>by
   simp only[bL,not_or] at h;have hx:x.beq 10=false:=by
    cases e:x.beq 10
    ·rfl
    ·exact absurd (rB e).symm h.1
   simp only[eW,eT,hx,aF,jbl h.2]
def jbm:∀ {a:List Nat},a≠[]->10∉a->eT a=[a]
 | [],h,_=>absurd rfl h
 | x::a,_,h=>by
   simp only[bL,not_or] at h;have hx:x.beq 10=false:=by
    cases e:x.beq 10
    ·rfl
    ·exact absurd (rB e).symm h.1
   cases a with
   | nil=>simp only[eT,hx,aF]
   | cons y a=>
     have ih:=jbm (List.cons_ne_nil y a) h.2
     show(bif x.beq 10 then _ else match eT (y::a) with
      | []=>[[x]]
      | w::ws=>(x::w)::ws)=_
     rw[ih,hx];rfl
def jkn (c:UInt8):∀l:List UInt8,(Lib.indexByte l c= -1/\c∉l)\/∃i:Nat,Lib.indexByte l c=i/\i<l.length/\l=l.take i++c::l.drop (i+1)/\c∉l.take i
 | []=>.inl ⟨rfl,by simp⟩
 | b::l=>by
   by_cases e:b=c
   ·subst e;refine .inr ⟨0,by simp[Lib.indexByte],by simp,by simp,by simp⟩
   ·have e':(b==c)=false:=by simpa using e
    rcases jkn c l with⟨h1,h2⟩ | ⟨i,h1,h2,h3,h4⟩
    ·refine .inl ⟨by simp[Lib.indexByte,e',h1],?_⟩;simp only[bL,not_or];exact⟨vT e,h2⟩
    ·refine .inr ⟨i+1,?_,by simp;omega,?_,?_⟩
     ·have:(Lib.indexByte l c== -1)=false:=by rw[h1];simp
      simp only[Lib.indexByte,e',this,h1];simp
     ·simp only[Fs,List.drop_succ_cons,eW];rw[<-h3]
     ·simp only[Fs,bL,not_or];exact⟨vT e,h4⟩
end X
end Go.Vm
