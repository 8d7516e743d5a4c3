/- Functions that change what their arguments lead to: captured variables, rows. -/
import Derived.Test.YtccefhabickfiaaGreatDoorXG7
import Derived.Shelf.SlSortCmp.WholeK
set_option linter.unusedSimpArgs false
set_option linter.unusedVariables false
namespace Go.Vm
namespace X
open W
variable {B:Base} {call:FuncId->List AV->Tr Blk->Nat->Nat->dR} {ro:Nat} {e:Env} {c:Cnv} {S:St} {tm:Tr AV} {H:Tr Blk} {nx:Nat} {ν:Nm} {F:bR} {M R:List Ent}
inductive Ak where
 | v (r:Rep)
 | pd (t:Ty)
 | cell (r:Rep)
 | row (t:Ty)
 | self
@[reducible] def Ak.den:Ak->Type
  | .v r=>r.den
  | .pd t=>t.den
  | .cell r=>r.den
  | .row t=>List t.den×Option Nat
  | .self=>Unit
@[reducible] def Ak.rden:Ak->Type
  | .cell r=>r.den
  | .row t=>List t.den×Option Nat
  | _=>Unit
@[reducible] def jf7:List Ak->Type
  | []=>Unit
  | k::l=>k.den×jf7 l
@[reducible] def jdr:List Ak->Type
  | []=>Unit
  | k::l=>k.rden×jdr l
def jko (F:bR) (f:FuncId) (caps:List AV):(k:Ak)->k.den->AV->List Ent->Prop
 | .v r,x,a,E=>kZ F r x a E
 | .pd t,x,a,E=>(∃b l,a=.ptr b 0/\(b,HB.cells l)∈F/\t.ok=true/\t.size<=l.length/\cB F t x (l.take t.size))/\E=[]
 | .cell r,x,a,E=>∃b m E',a=.ptr b 0/\E=E'++[⟨b,true,.cells m⟩]/\wQ F r x m E'
 | .row t,x,a,E=>wP F t x.1 x.2 a E
 | .self,_,a,E=>(∃b,a=.ptr b 0/\(b,HB.cells [.fn (.func f) [] caps])∈F)/\E=[]
def jqs (F:bR) (f:FuncId) (caps:List AV):(ks:List Ak)->jf7 ks->List AV->List Ent->Prop
 | [],_,vs,E=>vs=[]/\E=[]
 | k::ks,x,vs,E=>∃a vs' E1 E2,vs=a::vs'/\E=E2++E1/\jko F f caps k x.1 a E1/\jqs F f caps ks x.2 vs' E2
def jkx (F:bR):(k:Ak)->k.rden->AV->List Ent->Prop
 | .cell r,y,a,E=>∃b m E',a=.ptr b 0/\E=E'++[⟨b,true,.cells m⟩]/\wQ F r y m E'
 | .row t,y,a,E=>wP F t y.1 y.2 a E
 | .v _,_,_,E | .pd _,_,_,E | .self,_,_,E=>E=[]
def jdx (F:bR):(ks:List Ak)->jdr ks->List AV->List Ent->Prop
 | [],_,vs,E=>vs=[]/\E=[]
 | k::ks,y,vs,E=>∃a vs' E1 E2,vs=a::vs'/\E=E2++E1/\jkx F k y.1 a E1/\jdx F ks y.2 vs' E2
theorem j8t {F F':bR} (hF:∀x∈F,x∈F') {f:FuncId} {caps:List AV}:∀(k:Ak) {x:k.den} {a:AV} {E:List Ent},jko F f caps k x a E->jko F' f caps k x a E
 | .v r,x,a,E,h=>jk3 hF h
 | .pd t,x,a,E,⟨⟨b,l,h1,h2,h3,h4,h5⟩,h6⟩=>⟨⟨b,l,h1,hF _ h2,h3,h4,mM hF t _ _ h5⟩,h6⟩
 | .cell r,x,a,E,⟨b,m,E',h1,h2,h3⟩=>⟨b,m,E',h1,h2,ja0 hF r _ _ _ h3⟩
 | .row t,x,a,E,⟨y,h1,h2⟩=>⟨y,h1,K6 hF h2⟩
 | .self,x,a,E,⟨⟨b,h1,h2⟩,h3⟩=>⟨⟨b,h1,hF _ h2⟩,h3⟩
theorem j9e {F F':bR} (hF:∀x∈F,x∈F'):∀(k:Ak) {y:k.rden} {a:AV} {E:List Ent},jkx F k y a E->jkx F' k y a E
 | .v r,y,a,E,h=>h
 | .pd t,y,a,E,h=>h
 | .self,y,a,E,h=>h
 | .cell r,y,a,E,⟨b,m,E',h1,h2,h3⟩=>⟨b,m,E',h1,h2,ja0 hF r _ _ _ h3⟩
 | .row t,y,a,E,⟨z,h1,h2⟩=>⟨z,h1,K6 hF h2⟩
theorem jww {F F':bR} (hF:∀x∈F,x∈F'):∀ {ks:List Ak} {y:jdr ks} {vs:List AV} {E:List Ent},jdx F ks y vs E->jdx F' ks y vs E
 | [],y,vs,E,h=>h
 | k::ks,y,vs,E,⟨a,vs',E1,E2,h1,h2,h3,h4⟩=>⟨a,vs',E1,E2,h1,h2,j9e hF k h3,jww hF h4⟩
structure TR where
 f:FuncId
 np:Nat
 ks:List Ak
 outs:List Rep
 run:jf7 ks->Option (iD outs×jdr ks)
def TR.OK (B:Base) (call:FuncId->List AV->Tr Blk->Nat->Nat->dR) (t:TR):Prop:=
 ∀a r y,t.run a=some (r,y)->∀ro O E0 H nx,HK B ro (E0++O) H nx->(∀x∈E0,x.w=true)->∀A:bR,(∀x∈A,Has O x.1 x.2\/oD B x)->∀vs,jqs A t.f (vs.drop t.np) t.ks a vs E0->
  ∃v E Er N H' nx' F',call t.f vs H nx ro=some (v,H',nx')/\HK B ro (E++(Er++(N++O))) H' nx'/\(∀x∈E++Er,x.w=true)/\(∀x∈F',Has N x.1 x.2\/x∈A\/oD B x)/\K9 F' t.outs r v E/\jdx F' t.ks y vs Er
def jjc:List SV->List SV->Bool
 | [],[]=>true
 | a::l,b::m=>(match ptB a,ptB b with
   | some (x,o),some (y,p)=>x.beq y&&o.beq p
   | _,_=>false)&&jjc l m
 | _,_=>false
theorem juy:∀ {l m:List SV} {u v:List AV},jjc l m=true->cS ν F l u->cS ν F m v->u=v
 | [],[],u,v,_,h1,h2=>by simp only[cS] at h1 h2;rw[h1,h2]
 | a::l,b::m,u,v,h,⟨x,u',e1,h1,h2⟩,⟨y,v',e2,h3,h4⟩=>by
   simp only[jjc,aT] at h;obtain⟨h,h5⟩:=h;subst e1;subst e2;split at h<;>try (cases h;done)
   rename_i bx ox b2 o2 q1 q2;simp only[aT,bE,aO] at h;obtain⟨rfl,rfl⟩:=h;rw[jcm q1 h1,jcm q2 h3,juy h5 h2 h4]
 | [],_::_,u,v,h,_,_=>by cases h
 | _::_,[],u,v,h,_,_=>by cases h
def jf4 (f:FuncId) (caps:List SV) (nc:Nat):(k:Ak)->cV->SV->Option (Option Bool×cV×k.den)
 | .v r,mv,s=>jha r mv s
 | .pd t,mv,s=>match s with
   | .nptr b t' x 0=>bif t.ok then(if h:t'=t then some (none,mv,h▸x) else none) else none
   | .ptr b 0=>match eU mv b with
     | some (.lit cs)=>pH (.d t) (jK mv b) cs
     | _=>none
   | _=>none
 | .cell r,mv,s=>match s with
   | .ptr b 0=>bif Nat.blt b nc then(match eU mv b with
     | some (.lit cs)=>pH r (jK mv b) cs
     | _=>none) else none
   | _=>none
 | .row t,mv,s=>match s with
   | .own n=>bif Nat.blt n nc then(match U2 t mv (.own n) with
     | some (c,mv,L,cp)=>some (c,mv,(L,cp))
     | none=>none) else none
   | _=>none
 | .self,mv,s=>match s with
   | .ptr b 0=>match eU mv b with
     | some (.lit [.fn f' [] cs])=>bif Nat.beq f' f&&jjc cs caps then some (none,jK mv b,()) else none
     | _=>none
   | .cptr b f' k cs=>bif Nat.beq f' f&&jjc (cs.set k (.cptr b f' k cs)) caps then some (none,mv,()) else none
   | _=>none
def jj7 (f:FuncId) (caps:List SV) (nc:Nat):(ks:List Ak)->cV->List SV->Option (Option Bool×cV×jf7 ks)
 | [],mv,ss=>match ss with
   | []=>some (none,mv,())
   | _=>none
 | k::ks,mv,ss=>match ss with
   | s::ss=>match jf4 f caps nc k mv s with
     | some (c1,mv,x)=>match jj7 f caps nc ks mv ss with
       | some (c2,mv,y)=>some (T7 c1 c2,mv,(x,y))
       | none=>none
     | none=>none
   | _=>none
def jq5 (ν:Nm) (nc:Nat) (k:Ak) (s:SV) (v:AV):Prop:=match k with
 | .cell _=>∃b,s=.ptr b 0/\v=.ptr (ν b).1 0/\b<nc
 | .row _=>∃n,s=.own n/\v=(ν n).2/\(∀k o m c z,(ν n).2=.sl k o m c z->k=(ν n).1)/\n<nc
 | _=>True
def jq6 (ν:Nm) (nc:Nat):List Ak->List SV->List AV->Prop
 | [],ss,vs=>ss=[]/\vs=[]
 | k::ks,ss,vs=>∃s ss' v vs',ss=s::ss'/\vs=v::vs'/\jq5 ν nc k s v/\jq6 ν nc ks ss' vs'
theorem j20 {E:List Ent} (h:ConX B ro e (c.park E) S tm H nx ν F M R):ConX B ro e c S tm H nx ν (rQ E++F) M (E++R):=by
 have up:∀x∈F,x∈rQ E++F:=λx hx=>bO.2 (.inr hx)
 refine⟨h.hk.perm ?_,λn v hv=>vR up _ _ (h.fr n v hv),pC up _ _ h.ov,jau up h.mv,h.wr,jat up h.mc,λx hx=>?_,h.gl⟩
 ·have e1:(c.park E).O0=E++c.O0:=by simp[Cnv.O0,Cnv.park]
  rw[e1];show(M++(c.Mc++((E++R)++c.O0))).Perm (M++(c.Mc++(R++(E++c.O0))));rw[dL];exact iN _ (iN _ (kX R E _).symm)
 ·rw[dL];rcases bO.1 hx with hx | hx
  ·exact .inl (Has.append_left (jzs x hx))
  ·exact(h.fz x hx).imp (λh=>Has.append_right h) id
theorem joo {c:Cnv} {E E':List Ent}:(c.park E).park E'=c.park (E'++E):=by simp[Cnv.park]
theorem jxw {b n:Nat} (h:Nat.blt b n=true):b<n:=by
 have:b+1<=n:=by simpa[Nat.blt] using h
 omega
theorem kn3 {f:FuncId} {caps:List SV} {nc:Nat} {k:Ak} (h:ConX B ro e c S tm H nx ν F M R) {s:SV} {cc:Option Bool} {mv:cV} {x:k.den} (hs:jf4 f caps nc k S.mv s=some (cc,mv,x)) (hc:iM cc=true) {v:AV} (hv:bD ν F s v) {cv:List AV} (hcv:cS ν F caps cv):
  ∃E F' M' R',ConX B ro e (c.park E) { S with mv:=mv } tm H nx ν F' M' R'/\(∀x∈E,x.w=true)/\(∀x∈F,x∈F')/\jko F' f cv k x v E/\jq5 ν nc k s v:=by
 cases k with
 | v r=>
   obtain⟨E,F',M',R',k1,k2,k3,k4⟩:=jst h hs hc hv;exact⟨E,F',M',R',k1,k2,k3,k4,trivial⟩
 | pd t=>
   simp only[jf4] at hs;split at hs<;>try (cases hs;done)
   ·rename_i b t' x';obtain⟨ht,hs⟩:=bS hs;split at hs<;>try (cases hs;done)
    rename_i e1;subst e1;cases hs;obtain⟨rfl,l,h1,h2,h3⟩:=hv;exact⟨[],F,M,R,h,λ_ h=>(by cases h),λ_ h=>h,⟨⟨_,l,rfl,h1,ht,h2,h3⟩,rfl⟩,trivial⟩
   ·rename_i b;split at hs<;>try (cases hs;done)
    rename_i cs hb;simp only[bD] at hv;subst hv;obtain⟨E1,M1,⟨w,m,rfl,hm⟩,hw,hC⟩:=h.park hb;obtain⟨E2,F',M',R',k1,k2,k3,k4⟩:=jbp (.d t) (S:={ S with mv:=jK S.mv b }) hC hs hc hm;obtain⟨ht,k4,rfl⟩:=k4;rw[kkw] at k1;have hpf:=j20 k1;have hlen:=fP t _ _ k4;refine⟨[],_,_,_,hpf,λ_ h=>(by cases h),λy hy=>bO.2 (.inr (k3 y hy)),⟨⟨_,m,rfl,?_,ht,Nat.le_of_eq hlen.symm,?_⟩,rfl⟩,trivial⟩
    ·exact bO.2 (.inl (bW.2 rfl))
    ·rw[<-hlen,iY];exact mM (λy hy=>bO.2 (.inr hy)) t _ _ k4
 | cell r=>
   simp only[jf4] at hs;split at hs<;>try (cases hs;done)
   rename_i b;obtain⟨hb0,hs⟩:=bS hs;split at hs<;>try (cases hs;done)
   rename_i cs hb;simp only[bD] at hv;subst hv;obtain⟨E1,M1,⟨w,m,rfl,hm⟩,hw,hC⟩:=h.park hb;have ew:=hw _ (bW.2 rfl);simp only at ew;subst ew;obtain⟨E2,F',M',R',k1,k2,k3,k4⟩:=jbp r (S:={ S with mv:=jK S.mv b }) hC hs hc hm;rw[joo] at k1;refine⟨_,F',M',R',k1,λy hy=>?_,k3,⟨_,m,E2,rfl,rfl,k4⟩,_,rfl,rfl,jxw hb0⟩;rcases bO.1 hy with hy | hy
   ·exact k2 y hy
   ·exact hw y hy
 | row t=>
   simp only[jf4] at hs;split at hs<;>try (cases hs;done)
   rename_i n;obtain⟨hb0,hs⟩:=bS hs;split at hs<;>try (cases hs;done)
   rename_i c1 mv1 L cap hx;cases hs;obtain⟨E,M',k1,k2,k3⟩:=jg9 h hx hc hv;refine⟨E,F,M',R,k1,k2,λ_ h=>h,k3 cap (λm hm=>hm),n,rfl,hv.1,?_,jxw hb0⟩;simp only[U2] at hx;split at hx<;>try (cases hx;done)
   rename_i t' L' cap' hl;obtain⟨E0,⟨_,hE0⟩,_⟩:=h.own hl;have hd:∃sz,zM (ν n) t'.size L'.length cap' sz:=by
    rcases hE0 with⟨hd,_⟩ | ⟨_,_,_,hd,_⟩
    ·exact⟨_,hd⟩
    ·exact⟨_,hd⟩
   obtain⟨sz,hd⟩:=hd;intro k o n c z hk;rcases hd with⟨e1,_⟩ | ⟨_,_,e1,_⟩
   ·rw[e1] at hk;cases hk
   ·rw[e1] at hk;cases hk;rfl
 | self=>
   simp only[jf4] at hs;split at hs<;>try (cases hs;done)
   ·rename_i b;split at hs<;>try (cases hs;done)
    rename_i f' cs hb;obtain⟨hq,hs2⟩:=bS hs;clear hs;simp only[aT,bE,aO] at hq;obtain⟨rfl,hq⟩:=hq;cases hs2;simp only[bD] at hv;subst hv;obtain⟨E1,M1,⟨w,m,rfl,hm⟩,hw,hC⟩:=h.park hb;obtain⟨u,_,rfl,⟨a',c',rfl,h1,h2⟩,rfl⟩:=hm;simp only[cS] at h1;subst h1;have:=juy hq h2 hcv;subst this;exact⟨[],_,_,_,j20 hC,λ_ h=>(by cases h),λy hy=>bO.2 (.inr hy),⟨⟨_,rfl,bO.2 (.inl (bW.2 rfl))⟩,rfl⟩,trivial⟩
   ·rename_i b f' k cs;obtain⟨hq,hs2⟩:=bS hs;clear hs;simp only[aT,bE,aO] at hq;obtain⟨rfl,hq⟩:=hq;cases hs2;have hv0:=hv;obtain⟨rfl,c',h1,h2,h3⟩:=hv;have h4:=jre k h3 hv0;rw[List.set_set] at h4;have h5:c'.set k (.ptr (ν b).1 0)=c':=by
     obtain⟨hk,h5⟩:=nC.1 h2;rw[<-h5,List.set_getElem_self]
    rw[h5] at h4;have:=juy hq h4 hcv;subst this;exact⟨[],F,M,R,h,λ_ h=>(by cases h),λ_ h=>h,⟨⟨_,rfl,h1⟩,rfl⟩,trivial⟩
theorem j5e {f:FuncId} {caps:List SV} {nc:Nat}:∀(ks:List Ak) {c:Cnv} {S:St} {F:bR} {M R:List Ent} (h:ConX B ro e c S tm H nx ν F M R) {ss:List SV} {cc:Option Bool} {mv:cV} {x:jf7 ks} (hs:jj7 f caps nc ks S.mv ss=some (cc,mv,x)) (hc:iM cc=true) {vs:List AV} (hv:cS ν F ss vs) {cv:List AV} (hcv:cS ν F caps cv),
  ∃E F' M' R',ConX B ro e (c.park E) { S with mv:=mv } tm H nx ν F' M' R'/\(∀x∈E,x.w=true)/\(∀x∈F,x∈F')/\jqs F' f cv ks x vs E/\jq6 ν nc ks ss vs
 | [],c,S,F,M,R,h,ss,cc,mv,x,hs,hc,vs,hv,cv,hcv=>by
   simp only[jj7] at hs;split at hs<;>cases hs
   exact⟨[],F,M,R,h,λ_ h=>(by cases h),λ_ h=>h,⟨hv,rfl⟩,rfl,hv⟩
 | k::ks,c,S,F,M,R,h,ss,cc,mv,x,hs,hc,vs,hv,cv,hcv=>by
   simp only[jj7] at hs;split at hs<;>try (cases hs;done)
   rename_i s ss;split at hs<;>try (cases hs;done)
   rename_i c1 mv1 x1 h1;split at hs<;>try (cases hs;done)
   rename_i c2 mv2 x2 h2;cases hs;rw[jiq] at hc;obtain⟨v,vs',rfl,v1,v2⟩:=hv;obtain⟨E1,F1,M1,R1,k1,k2,k3,k4,k5⟩:=kn3 h h1 hc.1 v1 hcv;obtain⟨E2,F2,M2,R2,j1,j2,j3,j4,j5⟩:=j5e ks (S:={ S with mv:=mv1 }) k1 h2 hc.2 (pC k3 _ _ v2) (pC k3 _ _ hcv);rw[joo] at j1;refine⟨E2++E1,F2,M2,R2,j1,λy hy=>?_,λy hy=>j3 y (k3 y hy),⟨v,vs',E1,E2,rfl,rfl,j8t j3 k k4,j4⟩,s,ss,v,vs',rfl,rfl,k5,j5⟩;rcases bO.1 hy with hy | hy
   ·exact j2 y hy
   ·exact k2 y hy
def jum:(k:Ak)->k.rden->SV->Env->St->Option St
 | .cell r,y,s,e,S=>match s with
   | .ptr b 0=>match U9 r y e S with
     | some (l,S1)=>some { S1 with mv:=(b,.lit l)::S1.mv }
     | none=>none
   | _=>none
 | .row t,y,s,e,S=>match s with
   | .own n=>some { S with mv:=(n,.arr t y.1 y.2)::S.mv }
   | _=>none
 | .v _,_,_,_,S | .pd _,_,_,_,S | .self,_,_,_,S=>some S
def ji1:(ks:List Ak)->jdr ks->List SV->Env->St->Option St
 | [],_,ss,e,S=>match ss with
   | []=>some S
   | _=>none
 | k::ks,y,ss,e,S=>match ss with
   | s::ss=>match jum k y.1 s e S with
     | some S1=>ji1 ks y.2 ss e S1
     | none=>none
   | _=>none
theorem kk4 {k:Ak} {E:List Ent} (h:ConX B ro e (c.park E) S tm H nx ν F M R) {y:k.rden} {v:AV} (hr:jkx F k y v E) (hw:∀x∈E,x.w=true) {s:SV} {ν0:Nm} {nc:Nat} (hp:jq5 ν0 nc k s v) (hn:∀b,b<nc->ν b=ν0 b) (hnc:nc<=S.nc) {S':St} (hs:jum k y s e S=some S'):
  ∃ν' M',ConX B ro e c S' tm H nx ν' F M' R/\(∀b,b<S.nc->ν' b=ν b)/\S.nc<=S'.nc:=by
 cases k with
 | v r=>cases hs;cases hr;exact⟨ν,M,h,λ_ _=>rfl,bQ _⟩
 | pd r=>cases hs;cases hr;exact⟨ν,M,h,λ_ _=>rfl,bQ _⟩
 | self=>cases hs;cases hr;exact⟨ν,M,h,λ_ _=>rfl,bQ _⟩
 | cell r=>
   obtain⟨b,rfl,e1,hb⟩:=hp;simp only[jum] at hs;split at hs<;>cases hs
   rename_i l S1 hi;obtain⟨b',m,E',e2,rfl,hr⟩:=hr;rw[e1] at e2;have e2:(ν0 b).1=b':=by simpa using e2
   rw[<-joo] at h;obtain⟨ν',M',k1,k2,k3,k4,k5⟩:=jhl r h hr (λx hx=>hw x (by simp[hx])) hi;have eb:(ν' b).1=b':=by rw[k3 b (by omega),hn b hb,e2]
   exact⟨ν',_,jke k1 (b:=b) (sb:=.lit l) ⟨true,m,by rw[eb],k2⟩ (λx hx=>hw x (by simp at hx;simp[hx])),k3,k5⟩
 | row t=>
   obtain⟨n,rfl,e1,e2,hb⟩:=hp;cases hs;obtain⟨x,hx,h0,h1⟩:=hr;have e3:(ν n).2=x.2:=by rw[hn n hb,<-e1,hx]
   have e4:∀k o m c z,(ν n).2=.sl k o m c z->k=(ν n).1:=by rw[hn n hb];exact e2
   refine⟨ν,_,jke h (b:=n) (sb:=.arr t y.1 y.2) ⟨h0,?_⟩ hw,λ_ _=>rfl,bQ _⟩;have hd:∀ {sz:Option Nat},zM x t.size (List.length (α:=t.den) y.1) y.2 sz->zM (ν n) t.size (List.length (α:=t.den) y.1) y.2 sz/\((∃q,sz=some q)->(ν n).1=x.1):=by
    intro sz hd;rcases hd with⟨g1,g2,g3⟩ | ⟨c',q,g1,g2,g3⟩
    ·exact⟨.inl ⟨e3.trans g1,g2,g3⟩,fun⟨q,hq⟩=>by rw[g2] at hq;cases hq⟩
    ·have:=e4 _ _ _ _ _ (e3.trans g1);exact⟨.inr ⟨c',q,by rw[e3,<-this];exact g1,g2,g3⟩,λ_=>this.symm⟩
   rcases h1 with⟨g1,g2⟩ | ⟨w,m,g1,g2,g3⟩
   ·exact .inl ⟨(hd g1).1,g2⟩
   ·exact .inr ⟨w,m,by rw[(hd g2).2 ⟨_,rfl⟩];exact g1,(hd g2).1,g3⟩
theorem j29:∀(ks:List Ak) {e:Env} {c:Cnv} {S:St} {ν:Nm} {M E:List Ent} (h:ConX B ro e (c.park E) S tm H nx ν F M R) {y:jdr ks} {vs:List AV} (hr:jdx F ks y vs E) (hw:∀x∈E,x.w=true) {ss:List SV} {ν0:Nm} {nc:Nat} (hp:jq6 ν0 nc ks ss vs) (hn:∀b,b<nc->ν b=ν0 b) (hnc:nc<=S.nc) {S':St} (hs:ji1 ks y ss e S=some S'),
  ∃ν' M',ConX B ro e c S' tm H nx ν' F M' R
 | [],e,c,S,ν,M,E,h,y,vs,⟨hv,hE⟩,hw,ss,ν0,nc,hp,hn,hnc,S',hs=>by
   subst hE;simp only[ji1] at hs;split at hs<;>cases hs
   exact⟨ν,M,h⟩
 | k::ks,e,c,S,ν,M,E,h,y,vs,⟨a,vs',E1,E2,hv,hE,h1,h2⟩,hw,ss,ν0,nc,hp,hn,hnc,S',hs=>by
   subst hE;obtain⟨s,ss',v,vs2,rfl,hv2,p1,p2⟩:=hp;rw[hv] at hv2;cases hv2;simp only[ji1] at hs;split at hs<;>try (cases hs;done)
   rename_i S1 hs1;have h':ConX B ro e ((c.park E2).park E1) S tm H nx ν F M R:=by
    have:=h.reP (P':=E1++(E2++c.P)) (by
     show(E1++(E2++c.P)).Perm ((E2++E1)++c.P);rw[<-dL];exact O9 _ qec)
    exact this
   obtain⟨ν1,M1,k1,k2,k3⟩:=kk4 h' h1 (λx hx=>hw x (by simp[hx])) p1 hn hnc hs1;exact j29 ks k1 h2 (λx hx=>hw x (by simp[hx])) p2 (λb hb=>by rw[k2 b (by omega),hn b hb]) (by omega) hs
def jry {α:Type} (t:TR) (ss:List SV) (e:Env) (S:St) (k:SV->St->Option α):Option α:=
 match jj7 t.f (ss.drop t.np) S.nc t.ks S.mv ss with
 | some (c,mv,a)=>qU c ((t.run a).bind λr=>match n8 t.outs r.1 e { S with mv:=mv } with
    | some (rs,S1)=>match ji1 t.ks r.2 ss { e with ov:=rs++e.ov } S1 with
      | some S2=>k (X3 rs) S2
      | none=>none
    | none=>none)
 | none=>none
theorem kby {t:TR} (ht:t.OK B call) {α:Type} {ss:List SV} {k:SV->St->Option α} {r:α} (hs:jry t ss e S k=some r) (h:ConX B ro e c S tm H nx ν F M R) {vs:List AV} (hv:cS ν F ss vs):
  ∃v H' nx' s S' ν' F' M' R',call t.f vs H nx ro=some (v,H',nx')/\ConX B ro e c S' tm H' nx' ν' F' M' R'/\bD ν' F' s v/\k s S'=some r:=by
 unfold jry at hs;split at hs<;>try (cases hs;done)
 rename_i cc mv a ha;obtain⟨hc,hs⟩:=tQ hs;obtain⟨⟨y,z⟩,hy,hs⟩:=iA.1 hs;split at hs<;>try (cases hs;done)
 rename_i rs S1 hi;split at hs<;>try (cases hs;done)
 rename_i S2 hput;obtain⟨E0,F1,M1,R1,q1,q2,q3,q4,q5⟩:=j5e t.ks h ha hc hv (vT t.np hv);have p0:(M1++(c.Mc++(R1++(c.park E0).O0))).Perm (E0++(M1++(c.Mc++(R1++c.O0)))):=by
  have e1:(c.park E0).O0=E0++c.O0:=by simp[Cnv.O0,Cnv.park]
  rw[e1];have p1:(R1++(E0++c.O0)).Perm (E0++(R1++c.O0)):=kX R1 E0 _;have p2:(c.Mc++(R1++(E0++c.O0))).Perm (E0++(c.Mc++(R1++c.O0))):=(iN c.Mc p1).trans (kX c.Mc E0 _);exact(iN M1 p2).trans (kX M1 E0 _)
 have hk:HK B ro (E0++(M1++(c.Mc++(R1++c.O0)))) H nx:=q1.hk.perm p0.symm;have hA:∀x∈F1,Has (M1++(c.Mc++(R1++c.O0))) x.1 x.2\/oD B x:=λx hx=>by
  rcases q1.fz x hx with h1 | h1
  ·obtain⟨w,hm⟩:=h1.mem;left;exact Has.of_mem (w:=w) (by
    simp only[Cnv.O0];rcases bO.1 hm with h2 | h2
    ·simp[h2]
    ·have h3:(⟨x.1,w,x.2⟩:Ent)∈c.OF:=h2;simp[h3])
  ·exact .inr h1
 obtain⟨v,E,Er,N,H',nx',F',k1,k2,k3,k4,k5,k6⟩:=ht a y z hy ro _ E0 H nx hk q2 F1 hA vs q4;have hC:=jrz { S with mv:=mv } F1 M1 R1 F' E0 q1 (E++Er) N H' nx' (by rw[dL];exact k2) (λx hx=>by
  rcases k4 x hx with h1 | h1 | h1
  ·exact .inl (Has.append_left h1)
  ·exact(q1.fz x h1).imp (λh=>Has.append_right h) id
  ·exact .inr h1)
 rw[<-joo] at hC;have up:∀x∈F',x∈F'++F1:=λx hx=>bO.2 (.inl hx)
 obtain⟨us,rfl,k5⟩:=k5;obtain⟨ν1,M2,j1,j2,j3,j4,j5⟩:=jhm t.outs hC (jk4 up k5) (λx hx=>k3 x (by simp[hx])) hi;have j1':ConX B ro { e with ov:=rs++e.ov } (({ c with oa:=us++c.oa }:Cnv).park Er) S1 tm H' nx' ν1 (F'++F1) M2 (N++R1):=
  ⟨j1.hk,j1.fr,vS j2 j1.ov,j1.mv,j1.wr,j1.mc,j1.fz,j1.gl⟩
 obtain⟨ν2,M3,g1⟩:=j29 t.ks j1' (jww up k6) (λx hx=>k3 x (by simp[hx])) q5 (λb hb=>j3 b hb) j5 hput;obtain⟨g2,g3⟩:=jgg (oV j2) g1.ov;exact⟨_,H',nx',_,S2,ν2,_,M3,_,k1,⟨g1.hk,g1.fr,g3,g1.mv,g1.wr,g1.mc,g1.fz,g1.gl⟩,jue g2,hs⟩
def jl4:List TR->FuncId->Option TR
 | [],_=>none
 | t::r,f=>bif Nat.beq t.f f then some t else jl4 r f
theorem jzu:∀ {T:List TR} {f:FuncId} {t:TR},jl4 T f=some t->t∈T/\t.f=f
 | [],f,t,h=>by cases h
 | t'::r,f,t,h=>by
   simp only[jl4] at h;cases hb:Nat.beq t'.f f<;>rw[hb] at h<;>simp only[aF,aG] at h
   ·obtain⟨h1,h2⟩:=jzu h;exact⟨bN _ h1,h2⟩
   ·cases h;rw[bE,aO] at hb;exact⟨bM ..,hb⟩
def jp5 (T:List TR) (ch:CH):CH:=λα q f ss e S k=>match jl4 T f with
 | some t=>sw q none (jry t ss e S k)
 | none=>ch α q f ss e S k
theorem j5d {T:List TR} (hT:∀t∈T,t.OK B call) {ch:CH} (hch:tJ B call ch):tJ B call (jp5 T ch):=by
 intro α q f ss e S k r hs ro c tm H nx ν F M R h vs hv;unfold jp5 at hs;split at hs
 ·rename_i t ht;obtain⟨h1,rfl⟩:=jzu ht;obtain⟨hq,hs⟩:=jjk hs;subst hq;exact kby (hT t h1) hs h hv
 ·exact hch α q f ss e S k r hs ro c tm H nx ν F M R h vs hv
variable {memo:iP} {prog:Tr CFn}
def jek (N:Nat) (T:List TE) (T2:List TR) (C:List (FuncId×Fx)):Nat->CH
 | 0=>jp5 T2 (jf3 T noC)
 | d+1=>jp5 T2 (jf3 T (jmj N (jhc C) (jek N T T2 C d)))
def xX (B:Base) (memo:iP) (prog:Tr CFn) (m:Nat) (T:List TR):Prop:=∀t∈T,∀n,m<=n->t.OK B (nF B memo prog n)
theorem j0c {T:List TE} {T2:List TR} {C:List (FuncId×Fx)} {m:Nat} (hT:eG B memo prog m T) (hT2:xX B memo prog m T2) (hC:D0 memo prog C):∀d n,m+d<=n->tJ B (nF B memo prog n) (jek fuel T T2 C d)
 | 0,n,h=>j5d (λt ht=>hT2 t ht n (by omega)) (jp4 (λt ht=>hT t ht n (by omega)) j1x)
 | d+1,n+1,h=>j5d (λt ht=>hT2 t ht _ (by omega)) (jp4 (λt ht=>hT t ht _ (by omega)) (j0q (j0c hT hT2 hC d n (by omega)) λf x hx vs H nx ro=>by
    obtain⟨h1,h2⟩:=hC _ (jsv hx);simp only[nF,h1 vs,h2]))
theorem jsz {T:List TE} {T2:List TR} {C:List (FuncId×Fx)} {m d:Nat} (hT:eG B memo prog m T) (hT2:xX B memo prog m T2) (hC:D0 memo prog C) {G:cV} (hG:GRel B O2 G) {f:FuncId} {x:Fx} (hx:(∀vs,memo f vs=none)/\prog.get f=some x.cfn) {ins outs:List Rep}
  {run:iD ins->Option (iD outs)} (hr:∀a,lT fuel (jek fuel T T2 C d) G x ins outs a=run a):eG B memo prog (m+d+1) [⟨f,ins,outs,run⟩]:=by
 intro t ht n hn;rw[bW.1 ht]
 match n,hn with
 | n+1,hn=>
   have h1:=j3v (j0c hT hT2 hC d n (by omega)) hG (x:=x) (ins:=ins) (outs:=outs) (f:=f) (call':=nF B memo prog (n+1)) (λvs H nx ro=>by simp only[nF,hx.1 vs,hx.2]);have e:run=lT fuel (jek fuel T T2 C d) G x ins outs:=funext λa=>(hr a).symm
   rw[e];exact h1
theorem jq3 {m:Nat}:xX B memo prog m []:=λt ht=>by cases ht
theorem jq2 {m:Nat} {t:TR} {T:List TR} (h:xX B memo prog m [t]) (h':xX B memo prog m T):xX B memo prog m (t::T):=λu hu n hn=>by
 rcases bK.1 hu with rfl | hu
 ·exact h _ (bW.2 rfl) n hn
 ·exact h' u hu n hn
theorem jq4 {m m':Nat} {T:List TR} (h:xX B memo prog m T) (hm:m<=m'):xX B memo prog m' T:=λt ht n hn=>h t ht n (by omega)
end X
end Go.Vm
namespace Go.Vm
namespace X
open W
variable {B:Base} {memo:iP} {prog:Tr CFn} {ro:Nat} {O:List Ent} {H:Tr Blk} {nx:Nat} {F:bR}
theorem take_at {c:Tr AV}:∀ {l:List AV} {i:Nat},(∀j,j<l.length->c.get (i+j)=l[j]?)->take c i l.length=some l
 | [],i,h=>rfl
 | a::l,i,h=>by
   have h0:=h 0 (by simp);rw[mG] at h0;have:=take_at (c:=c) (l:=l) (i:=i+1) λj hj=>by
    have:=h (j+1) (by simpa using hj);rw[show i+1+j=i+ (j+1) by omega];simpa using this
   simp only[cM,take];rw[h0];simp only[xK,this]
end X
end Go.Vm
namespace Go.Vm
namespace X
open W
variable {B:Base} {memo:iP} {prog:Tr CFn} {ro:Nat} {O:List Ent} {H:Tr Blk} {nx:Nat} {F:bR}
def Ty.dat:Ty->Bool
 | .int _ | .bool=>true
 | .prod a b=>a.dat&&b.dat
 | _=>false
theorem jsf {F:bR}:∀(t:Ty),t.dat=true->∀(x:t.den) (l:List AV),cB F t x l->l=oJ t x
 | .int k,_,x,l,h=>h
 | .bool,_,x,l,h=>h
 | .prod a b,h,x,l,⟨l1,l2,e,h1,h2⟩=>by
   simp only[Ty.dat,aT] at h;rw[e,jsf a h.1 _ _ h1,jsf b h.2 _ _ h2,oJ]
theorem jlv {F:bR}:∀(t:Ty),t.dat=true->∀x:t.den,cB F t x (oJ t x)
 | .int k,_,x=>rfl
 | .bool,_,x=>rfl
 | .prod a b,h,x=>by
   simp only[Ty.dat,aT] at h;exact⟨_,_,rfl,jlv a h.1 x.1,jlv b h.2 x.2⟩
theorem jlu:∀(t:Ty),t.dat=true->∀x:t.den,(oJ t x).all M5=true
 | .int k,_,x=>rfl
 | .bool,_,x=>rfl
 | .prod a b,h,x=>by
   simp only[Ty.dat,aT] at h;rw[oJ,qf0,jlu a h.1,jlu b h.2];rfl
theorem jsi:∀(t:Ty),t.dat=true->∀x:t.den,(oJ t x).all mN=true
 | .int k,_,x=>rfl
 | .bool,_,x=>rfl
 | .prod a b,h,x=>by
   simp only[Ty.dat,aT] at h;rw[oJ,qf0,jsi a h.1,jsi b h.2];rfl
def kH (t:Ty) (L:List t.den):List AV:=L.flatMap (oJ t)
theorem jzg {F:bR} {t:Ty} (ht:t.dat=true):∀ {L:List t.den} {l:List AV},dP (cB F t) L l->l=kH t L
 | [],l,h=>h
 | x::L,l,⟨l1,l2,e,h1,h2⟩=>by
   rw[e,jsf t ht _ _ h1,jzg ht h2];unfold kH;rw[jV]
theorem jsk {F:bR} {t:Ty} (ht:t.dat=true):∀(L:List t.den),dP (cB F t) L (kH t L)
 | []=>rfl
 | x::L=>⟨_,_,by unfold kH;rw[jV],jlv t ht x,jsk ht L⟩
theorem jsj {t:Ty} (ht:t.dat=true) (L:List t.den):(kH t L).length=L.length*t.size:=
 oT (λx l h=>fP (F:=[]) _ _ _ h) (jsk (F:=[]) ht L)
theorem kcq {t:Ty} (ht:t.dat=true) (L:List t.den):(kH t L).all M5=true:=by
 unfold kH;rw[List.all_flatMap];exact cJ.2 λx _=>jlu t ht x
theorem kcr {t:Ty} (ht:t.dat=true) (L:List t.den):(kH t L).all mN=true:=by
 unfold kH;rw[List.all_flatMap];exact cJ.2 λx _=>jsi t ht x
theorem jvl {t:Ty} (ht:t.dat=true) {sv:List AV->Option (List AV)} {srt:List t.den->List t.den} {ok:List t.den->Bool} (hsl:∀L,(srt L).length=L.length) (hsv:∀L,ok L=true->sv (kH t L)=some (kH t (srt L))) {f fc:FuncId} (hm:∀az g,B9 t.size sv f fc f az=some g->memo f az=some g):
  xX B memo prog 1 [⟨f,2,[.row t,.v (.fn fc)],[],λa=>(bif(List.length (α:=t.den) a.1.1).ble 1000000&&ok a.1.1 then some (srt a.1.1) else none).map λl=>((),((l,a.1.2),((),())))⟩]:=by
 intro tt htt n hn;rw[bW.1 htt]
 match n,hn with
 | n+1,_=>
 intro a r y hr ro O E0 H nx hk hw A hA vs hv;obtain⟨⟨L,cp⟩,u,w0⟩:=a;simp only[eW] at hr;obtain⟨M,hM,hr⟩:=hr;cases hr;obtain⟨hc,hM⟩:=bS hM;cases hM;rw[aT,bB,aO] at hc;obtain⟨hc,hokL⟩:=hc;obtain⟨v1,vs1,E1,E2,rfl,rfl,h1,v2,vs2,E3,E4,rfl,rfl,h2,rfl,rfl⟩:=hv;obtain⟨rfl,rfl⟩:v2=.fn (.func fc) [] []/\E3=[]:=by
  obtain⟨h2,h3⟩:=h2;cases h2;exact⟨rfl,h3⟩
 have hcall:∀g,memo f [v1,.fn (.func fc) [] []]=some g->nF B memo prog (n+1) f [v1,.fn (.func fc) [] []] H nx ro=g H nx ro:=λg hg=>by
  simp only[nF,hg];rw[aH hk.base]
 have hmm0:B9 t.size sv f fc f [.nils,.fn (.func fc) [] []]=some (λH nx _=>some (.tup [],H,nx)):=by
  unfold B9;rw[bE,bJ rfl,aF];show(bif Nat.beq fc fc then _ else _)=_;rw[bE,bJ rfl,aF]
 have hmm1:∀b o n cap,B9 t.size sv f fc f [.sl b o n cap t.size,.fn (.func fc) [] []]=some (λH nx ro=>match n with
   | 0=>some (.tup [],H,nx)
   | n+1=>jfq t.size sv ro H nx b o (n+1)):=λb o n cap=>by
  unfold B9;rw[bE,bJ rfl,aF];show(bif Nat.beq fc fc&&Nat.beq t.size t.size then _ else _)=_;rw[bE,bE,bJ rfl,bJ rfl,lG,aF];rfl
 obtain⟨x,rfl,hz,hB⟩:=h1;simp only[eP] at hk hw;have done0:L=[]->memo f [x.2,.fn (.func fc) [] []]=some (λH nx _=>some (.tup [],H,nx))\/(∃g,memo f [x.2,.fn (.func fc) [] []]=some g/\g H nx ro=some (.tup [],H,nx))->∃v E Er N H' nx' F',nF B memo prog (n+1) f [x.2,.fn (.func fc) [] []] H nx ro=some (v,H',nx')/\HK B ro (E++(Er++(N++O))) H' nx'/\(∀x∈E++Er,x.w=true)/\(∀x∈F',Has N x.1 x.2\/x∈A\/oD B x)/\K9 F' [] () v E/\jdx F' [.row t,.v (.fn fc)] ((srt L,cp),((),())) [x.2,.fn (.func fc) [] []] Er:=by
  intro hL hmm;subst hL;have hs0:srt []=[]:=Y1.1 (hsl []);rw[hs0];have hg:∃g,memo f [x.2,.fn (.func fc) [] []]=some g/\g H nx ro=some (.tup [],H,nx):=by
   rcases hmm with h | h
   ·exact⟨_,h,rfl⟩
   ·exact h
  obtain⟨g,hg,hg2⟩:=hg;refine⟨.tup [],[],E1,[],H,nx,A,by rw[hcall g hg,hg2],hk,hw,λx hx=>.inr (.inl hx),⟨[],rfl,rfl,rfl⟩,x.2,[.fn (.func fc) [] []],E1,[],rfl,rfl,⟨x,rfl,hz,hB⟩,_,[],[],[],rfl,rfl,rfl,rfl,rfl⟩
 rcases hB with⟨hd,rfl⟩ | ⟨w,m,rfl,hd,hrel,hone⟩
 ·rcases hd with⟨e1,_,e2,_⟩ | ⟨_,_,_,e,_⟩
  ·have hL:L=[]:=Y1.1 e2;refine done0 hL (.inl (hm _ _ ?_));rw[e1];exact hmm0
  ·cases e
 ·rcases hd with⟨_,e,_⟩ | ⟨cap,k,e1,e2,e3,e4,e5⟩
  ·cases e
  ·cases e2;by_cases hL:L=[]
   ·refine done0 hL (.inr ⟨_,hm _ _ (by rw[e1];exact hmm1 _ _ _ _),by subst hL;rfl⟩)
   ·have hw1:w=true:=hw _ (bW.2 rfl);subst hw1;have hent:=hk.ent ⟨x.1,true,.cells m⟩ (by simp);have hrx:=hent.2.1 rfl;simp only at hrx;obtain⟨c,g1,g2⟩:=hent.2.2;simp only at g1 g2;have hlen:L.length*t.size<=m.length:=by
     have e3:L.length*t.size<=m.length:=e3;exact e3
    have hrel':dP (cB A t) L (m.take (L.length*t.size)):=hrel;have em:=jzg ht hrel';have hml:(m.take (L.length*t.size)).length=L.length*t.size:=by rw[mU];omega
    have htk:take c 0 (m.take (L.length*t.size)).length=some (m.take (L.length*t.size)):=take_at λj hj=>by
     rw[hml] at hj;rw[lH,g2 j (by omega),yY,aH (by omega)]
    rw[hml,em] at htk;have hn0:0<L.length:=by
     cases L with
     | nil=>exact absurd rfl hL
     | cons a l=>simp
    have hls:=hsl L;have hel:(kH t (srt L)).length=L.length*t.size:=by rw[jsj ht,hls]
    have hsort:jfq t.size sv ro H nx x.1 0 L.length=some (.tup [],H.set x.1 (.cells (put (kH t (srt L)) 0 c) m.length),nx):=by
     unfold jfq;simp only[g1];rw[show((rx ro).ble x.1&&(1:Nat).ble L.length&&L.length.ble 1000000)=true by simp only[aT,bB,aO];exact⟨⟨hrx,hn0⟩,hc⟩];rw[aF,show(0+L.length*t.size).ble m.length=true by simp only[bB,aO];omega,aF];simp only[htk,kcq ht,aF,hsv L hokL];rw[show((true&&(kH t (srt L)).length.beq (L.length*t.size)))=true by rw[hel,sY,bE,bJ rfl],aF]
    have hk':=hk.upd (c':=.cells (kH t (srt L)++m.drop (L.length*t.size))) .here (.cells (put (kH t (srt L)) 0 c) m.length) ⟨put (kH t (srt L)) 0 c,by rw[Tr.get_set,aH rfl,dG,hel,mT];congr 2;omega,λi hi=>by
     rw[sM,hel,qho,hel,lH,rC];by_cases hc:i<L.length*t.size
     ·rw[aH ⟨eJ _,hc⟩,aH hc]
     ·rw[aC (λh=>hc h.2),aC hc,u9,show L.length*t.size+ (i-L.length*t.size)=i by omega];rw[dG,hel,mT] at hi;exact g2 i (by omega)⟩
    have hln:(kH t (srt L)++m.drop (L.length*t.size)).length=m.length:=by
     rw[dG,hel,mT];omega
    refine⟨.tup [],[],_,[],_,nx,A,?_,hk',λy hy=>by rw[bW.1 hy],λx hx=>.inr (.inl hx),⟨[],rfl,rfl,rfl⟩,x.2,[.fn (.func fc) [] []],_,[],rfl,rfl,⟨x,rfl,hz,.inr ⟨true,_,rfl,.inr ⟨cap,_,?_,rfl,?_,λk hk=>?_,λk hk=>e5 k hk⟩,?_,?_⟩⟩,_,[],[],[],rfl,rfl,rfl,rfl,rfl⟩
    ·obtain⟨k,hk2⟩:∃k,L.length=k+1:=⟨L.length-1,by omega⟩
     have:=hm [x.2,.fn (.func fc) [] []] _ (by rw[e1];exact hmm1 _ _ _ _);rw[hcall _ this]
     show(match List.length (α:=t.den) L with
      | 0=>_
      | k+1=>jfq t.size sv ro H nx x.1 0 (k+1))=_
     rw[hk2] at hsort ⊢;exact hsort
    ·show x.2=.sl x.1 0 (srt L).length cap _;rw[hls];exact e1
    ·show(srt L).length*_<=_;rw[hls,hln];exact hlen
    ·have:=e4 k hk;rw[hln];refine⟨this.1,?_⟩;show(srt L).length<=k;rw[hls];exact this.2
    ·show dP _ (srt L) (List.take ((srt L).length*_) _);rw[hls,qe8 (by omega),jD (by omega)];exact jsk ht _
    ·rw[qf0,aT];exact⟨kcr ht _,cJ.2 λa ha=>cJ.1 hone a (uR ha)⟩
end X
end Go.Vm
namespace Go.Vm
namespace X
open W Go Go.RowKit Go.Shelf Go.Sort Go.Proofs
section sort
variable {α:Type} (cf:α->α->Int)
def jeo (x:α):List α->List α
 | []=>[x]
 | y::l=>bif decide (cf y x<0) then y::jeo x l else x::y::l
def sortC:List α->List α
 | []=>[]
 | x::l=>jeo cf x (sortC l)
theorem js5 (x:α):∀l,(jeo cf x l).Perm (x::l)
 | []=>qic _
 | y::l=>by
   simp only[jeo];cases decide (cf y x<0) with
   | true=>exact((js5 x l).cons y).trans (List.Perm.swap x y l)
   | false=>exact qic _
theorem tG:∀l,(sortC cf l).Perm l
 | []=>qic _
 | x::l=>(js5 cf x _).trans ((tG l).cons x)
theorem j0r (hO:SWO (ltOf cf)) (x:α):∀ {l:List α},l.Pairwise (λa b=>¬cf b a<0)->(jeo cf x l).Pairwise (λa b=>¬cf b a<0)
 | [],_=>qe0 _ _
 | y::l,h=>by
   have nt:∀a b c:α,¬cf b a<0->¬cf c b<0->¬cf c a<0:=λa b c h1 h2 h3=>by
    have:=hO.ntrans c b a (by unfold ltOf;exact lF h2) (by unfold ltOf;exact lF h1);unfold ltOf at this;exact of_decide_eq_false this h3
   simp only[jeo];rw[jY] at h;cases hc:decide (cf y x<0) with
   | false=>
     simp only[aG];have hc:=of_decide_eq_false hc;refine jY.2 ⟨λa ha=>?_,jY.2 h⟩;rcases bK.1 ha with rfl | ha
     ·exact hc
     ·exact nt _ _ _ hc (h.1 a ha)
   | true=>
     simp only[aF];have hc:=of_decide_eq_true hc;refine jY.2 ⟨λa ha=>?_,j0r hO x h.2⟩;rcases bK.1 ((js5 cf x l).subset ha) with rfl | ha
     ·intro c;have t:=hO.trans _ _ _ (show ltOf cf y _=true by unfold ltOf;exact bJ hc) (show ltOf cf _ y=true by unfold ltOf;exact bJ c);rw[hO.irrefl] at t;cases t
     ·exact h.1 a ha
theorem Q8 (hO:SWO (ltOf cf)):∀l,(sortC cf l).Pairwise (λa b=>¬cf b a<0)
 | []=>List.Pairwise.nil
 | x::l=>j0r cf hO x (Q8 hO l)
theorem xR:∀ {l m:List α} (_:∀x∈l,∀y∈l,¬cf x y<0->¬cf y x<0->x=y),l.Pairwise (λa b=>¬cf b a<0)->m.Pairwise (λa b=>¬cf b a<0)->l.Perm m->l=m
 | [],m,_,_,_,h=>(List.Perm.nil_eq h)
 | a::l,[],_,_,_,h=>by have:=h.length_eq;simp at this
 | a::l,b::m,h0,h1,h2,h=>by
   rw[jY] at h1 h2;have e:a=b:=by
    rcases bK.1 (h.subset (bM)) with e | e
    ·exact e
    ·rcases bK.1 (h.symm.subset (bM)) with e2 | e2
     ·exact e2.symm
     ·exact h0 _ (bM) _ (bN _ e2) (h2.1 a e) (h1.1 b e2)
   subst e;rw[xR (λx hx y hy=>h0 x (bN _ hx) y (bN _ hy)) h1.2 h2.2 (List.Perm.cons_inv h)]
def M8:List α->Bool
 | []=>true
 | x::l=>(match l with
   | []=>true
   | y::_=>decide (cf x y<0))&&M8 l
end sort
def M7:(t:Ty)->List AV->Option (t.den×List AV)
 | .int k,.int k' z::l=>if k=k' then some (z,l) else none
 | .bool,.bool b::l=>some (b,l)
 | .prod a b,l=>match M7 a l with
   | some (x,l1)=>(match M7 b l1 with
     | some (y,l2)=>some ((x,y),l2)
     | none=>none)
   | none=>none
 | _,_=>none
def jd9 (t:Ty):Nat->List AV->Option (List t.den)
 | 0,[]=>some []
 | 0,_::_=>none
 | n+1,l=>match M7 t l with
   | some (x,l1)=>(match jd9 t n l1 with
     | some L=>some (x::L)
     | none=>none)
   | none=>none
theorem jsd:∀(t:Ty),t.dat=true->∀(x:t.den) (l:List AV),M7 t (oJ t x++l)=some (x,l)
 | .int k,_,x,l=>by
   show(if k=k then some (x,l) else none)=_;rw[aH rfl]
 | .bool,_,x,l=>rfl
 | .prod a b,h,x,l=>by
   simp only[Ty.dat,aT] at h;rw[M7,oJ,dL,jsd a h.1];simp only[jsd b h.2]
theorem jse:∀(t:Ty),t.dat=true->∀ {l:List AV} {x:t.den} {l':List AV},M7 t l=some (x,l')->l=oJ t x++l'
 | .int k,_,l,x,l',h=>by
   match l,h with
   | .int k' z::l,h=>
     simp only[M7] at h;split at h
     ·rename_i e;subst e;cases h;rfl
     ·cases h
 | .bool,_,l,x,l',h=>by
   match l,h with
   | .bool b::l,h=>
     simp only[M7] at h;cases h;rfl
 | .prod a b,hd,l,x,l',h=>by
   simp only[Ty.dat,aT] at hd;rw[M7] at h;split at h<;>try (cases h;done)
   rename_i y l1 e1;split at h<;>try (cases h;done)
   rename_i z l2 e2;cases h;rw[jse a hd.1 e1,jse b hd.2 e2,oJ,dL]
theorem jy9 {t:Ty} (ht:t.dat=true):∀L:List t.den,jd9 t L.length (kH t L)=some L
 | []=>rfl
 | x::L=>by
   rw[cM,jd9,kH,jV,jsd t ht];have:=jy9 ht L;unfold kH at this;simp only[this]
theorem jza {t:Ty} (ht:t.dat=true):∀ {n:Nat} {l:List AV} {L:List t.den},jd9 t n l=some L->l=kH t L/\L.length=n
 | 0,[],L,h=>by cases h;exact⟨rfl,rfl⟩
 | 0,_::_,L,h=>by cases h
 | n+1,l,L,h=>by
   rw[jd9] at h;split at h<;>try (cases h;done)
   rename_i x l1 e1;split at h<;>try (cases h;done)
   rename_i L1 e2;cases h;obtain⟨h1,h2⟩:=jza ht e2;refine⟨?_,by rw[cM,h2]⟩;rw[jse t ht e1,h1];unfold kH;rw[jV]
theorem jg3:∀ {t:Ty},t.dat=true->0<t.size
 | .int _,_=>Nat.one_pos
 | .bool,_=>Nat.one_pos
 | .prod a b,h=>by
   simp only[Ty.dat,aT] at h;have:=jg3 h.1;rw[Ty.size];omega
def B7 (t:Ty) (cf:t.den->t.den->Int) (ok:List t.den->Bool) (A:List AV):Option (List AV):=match jd9 t (A.length / t.size) A with
 | some L=>bif ok L then some (kH t (sortC cf L)) else none
 | none=>none
theorem jvh {t:Ty} (ht:t.dat=true) {cf:t.den->t.den->Int} {ok:List t.den->Bool} (L:List t.den) (h:ok L=true):B7 t cf ok (kH t L)=some (kH t (sortC cf L)):=by
 unfold B7;rw[jsj ht,Nat.mul_div_cancel _ (jg3 ht),jy9 ht];simp only[h,aF]
theorem knk {t:Ty} (ht:t.dat=true) {cf:t.den->t.den->Int} {ok:List t.den->Bool} {n:Nat} {A A':List AV} (hl:A.length=n*t.size) (h:B7 t cf ok A=some A'):∃L:List t.den,A=kH t L/\L.length=n/\A'=kH t (sortC cf L)/\ok L=true:=by
 unfold B7 at h;rw[hl,Nat.mul_div_cancel _ (jg3 ht)] at h;split at h<;>try (cases h;done)
 rename_i L e;obtain⟨h1,h2⟩:=jza ht e;obtain⟨h3,h⟩:=bS h;cases h;exact⟨L,h1,h2,rfl,h3⟩
theorem jz0 {α β:Type} {f:α->List β} {k:Nat} (hk:∀x,(f x).length=k) (k0:0<k) (d:α):∀(L:List α) (i:Nat),i<L.length*k->(L.flatMap f)[i]?=(f (L.getD (i / k) d))[i%k]?
 | [],i,h=>by simp at h
 | x::L,i,h=>by
   rw[jV];by_cases c:i<k
   ·rw[P2 (by rw[hk];exact c),Nat.div_eq_of_lt c,qfm c];rfl
   ·obtain⟨j,rfl⟩:∃j,i=j+k:=⟨i-k,by omega⟩
    rw[yX (by rw[hk];omega),hk,Nat.add_sub_cancel,jz0 hk k0 d L j (by rw[cM,kK] at h;omega),Nat.add_div_right _ k0,Nat.add_mod_right];rfl
def pY (t:Ty) (x:t.den):List Value:=(oJ t x).map vL
theorem jsm {t:Ty} (ht:t.dat=true) (x:t.den):(pY t x).length=t.size:=by
 rw[pY,dM];exact fP (F:=[]) t x _ (jlv t ht x)
theorem kcu {t:Ty} (ht:t.dat=true) (x:t.den):∀v∈pY t x,v.oneCell'=true:=λv hv=>by
 obtain⟨a,ha,rfl⟩:=bH.1 hv;have:=cJ.1 (jlu t ht x) a ha;cases a<;>first | rfl | (cases this;done)
theorem jzy {t:Ty} (ht:t.dat=true) (L:List t.den):letI:Inhabited t.den:=⟨t.df⟩;(flatK (pY t) t.size L.toArray).toList=(kH t L).map vL:=by
 letI:Inhabited t.den:=⟨t.df⟩
 have hp:=jg3 ht;refine qfd λi=>?_
 by_cases hi:i<L.length*t.size
 ·have h1:i< (flatK (pY t) t.size L.toArray).size:=by rw[size_flatK];simpa using hi
  rw[rZ,rY h1,<-getElem!_pos _ i h1,get_flatK _ _ _ _ (by simpa using hi)];have e:=jz0 (f:=pY t) (jsm ht) hp t.df L i hi;have e2:(kH t L).map vL=L.flatMap (pY t):=by
   unfold kH pY;rw[List.map_flatMap]
  rw[e2,e];have hq:i / t.size<L.length:=Nat.div_lt_of_lt_mul (by rw[qg0];exact hi);have e3:(L.toArray)[i / t.size]! =L.getD (i / t.size) t.df:=by
   rw[getElem!_pos _ _ (by simpa using hq),gH,dI hq];simp
  have hm:i%t.size< (pY t (L.getD (i / t.size) t.df)).length:=by rw[jsm ht];exact Nat.mod_lt _ hp
  rw[e3,dI hm,getElem!_pos (pY t (L.getD (i / t.size) t.df)) (i%t.size) hm]
 ·rw[sR,sR]
  ·rw[dM,jsj ht];omega
  ·rw[lY,size_flatK];simp;omega
theorem j3q {P:Program} {ρ:Ren} (L0:SlLaysF0.n6 P ρ) {t:Ty} (ht:t.dat=true) (aE:∀w,(isAgg (ρ.t 24)).run P w=.ok true w) (zE:∀w,(Go.sizeOf (ρ.t 24)).run P w=.ok t.size w)
  {cf:t.den->t.den->Int} (hO:SWO (ltOf cf)) {ok:List t.den->Bool} (h0:∀L,ok L=true->∀x∈L,∀y∈L,¬cf x y<0->¬cf y x<0->x=y) {fc:Nat} (eg:∀args w,(callFunc fc args).run P w=.ok (.enter fc args) w)
  (hc:∀(x y:t.den) (w:World),Calls P fc #[.agg (pY t x).toArray,.agg (pY t y).toArray] w λe w'=>e=.returned (.int .i64 (cf x y))/\∃q os',w'=grow (w.drewN q) os'):W.RowK P t.size (B7 t cf ok) (ρ.f 6) fc:=by
 letI:Inhabited t.den:=⟨t.df⟩
 intro blk off n c A A' w hA hn hn6 hnc hd hsv hd' hl' hcell;obtain⟨L,rfl,hL,rfl,hok⟩:=knk ht hA hsv;have hp:=jg3 ht;have hf:=jzy ht L;have hsz:(flatK (pY t) t.size L.toArray).size=n*t.size:=by rw[size_flatK];simp[hL]
 have hpos:0<n*t.size:=Nat.mul_pos hn hp;have hcell':∀j,j< (flatK (pY t) t.size L.toArray).size->w.cell? ⟨blk,off+j,none⟩=some (flatK (pY t) t.size L.toArray)[j]! /\w.frozen? ⟨blk,off+j,none⟩=false:=λj hj=>by
  refine hcell j _ ?_;rw[<-hf,rZ,rY hj,getElem!_pos _ j hj]
 have hblk:blk<w.heap.size:=block_lt_of_cell (hcell' 0 (by omega)).1;have h:=AnyQ.slices_SortFunc_eq L0 t.size aE zE (pY t) (jsm ht) (kcu ht) cf hO fc #[] blk off c L.toArray w eg (λm os dk hdk x y=>hc x y _) hcell' hblk (by simp;omega);rw[show L.toArray.size=n by simpa using hL] at h;refine h.mono ?_;rintro e w' ⟨rfl,k,os,rfl⟩;have hps:=pdq_sorts (ltOf cf) hO L.toArray 0 n (Lib.bitLen n) true true (eJ _) (by simp[hL]) (Or.inl rfl);obtain⟨⟨p1,_,p3⟩,p4⟩:=hps;generalize pdq (ltOf cf) L.toArray 0 n (Lib.bitLen n) true true=D at *;have hDs:D.size=n:=by rw[p1];simpa using hL
 have eD:D.toList=sortC cf L:=by
  refine(xR cf (λx hx y hy=>h0 L hok x ((tG cf L).subset hx) y ((tG cf L).subset hy)) (Q8 cf hO L) ?_ ?_).symm
  ·rw[gZ];intro i j hi hj hij;have hi':i<D.size:=by simpa using hi
   have hj':j<D.size:=by simpa using hj
   have:=p4 i j (eJ _) hij (by omega);rw[getElem!_pos D i hi',getElem!_pos D j hj'] at this;unfold ltOf at this;simpa using of_decide_eq_false this
  ·have e2:D.extract 0 n=D:=by rw[<-hDs];simp
   have e3:L.toArray.extract 0 n=L.toArray:=by
    have:L.toArray.size=n:=by simpa using hL
    conv=>lhs;rw[<-this]
    simp
   rw[e2,e3] at p3;have p3':D.toList.Perm L:=by simpa using p3
   exact(tG cf L).trans p3'.symm
 have hfD:=jzy ht (sortC cf L);rw[<-eD] at hfD;rw[show D.toList.toArray=D from by simp] at hfD;have hDz:(flatK (pY t) t.size D).size=n*t.size:=by rw[size_flatK,hDs]
 rw[<-eD];have hFl:((kH t D.toList).map vL).length=n*t.size:=by rw[<-hfD];simpa using hDz
 show _=_/\jxf w (grow (putRow id (Sort.ahead w k) blk off (flatK (pY t) t.size D)) os) blk off _;generalize flatK (pY t) t.size D=F at *;refine⟨rfl,rfl,rfl,rfl,by simp[putRow,mapBlock,Sort.ahead],λx hx hne=>?_,λcs e fr hb=>?_⟩
 ·rw[heap_grow_old _ _ (by simpa[putRow,mapBlock,Sort.ahead] using hx)];simp only[putRow,mapBlock,Sort.ahead,v7,aC (λe=>hne (Eq.symm e))]
 ·refine⟨putCells id off F cs,?_,by simp[putCells],λj hj=>?_⟩
  ·rw[heap_grow_old _ _ (by simpa[putRow,mapBlock,Sort.ahead] using hblk)];simp only[putRow,mapBlock,Sort.ahead,v7,cK,hb,iF,onCells]
  ·rw[hFl];simp only[putCells,Array.getElem?_mapIdx,rY hj,iF,hDz];by_cases hc:off<=j/\j<off+n*t.size
   ·rw[aH hc,aH hc,getElem!_pos F (j-off) (by omega),<-hfD,rZ,rY (by omega)];rfl
   ·rw[aC hc,aC hc]
end X
end Go.Vm
namespace Go.Vm
namespace X
open W Go Go.RowKit Go.Shelf Go.Sort Go.Lib Go.Proofs
abbrev gM:=Int×((Int×Int)×(Int×Int))
abbrev aP:=Int×(Int×Int)
def jc9:Ty:=.prod (.int .u8) (.prod (.prod (.int .u8) (.int .i64)) (.prod (.int .i64) (.int .i64)))
def jpc:Ty:=.prod (.int .i64) (.prod (.int .u8) (.int .u8))
def c3 (a b:Int):Int:=bif decide (a<b) then -1 else bif decide (b<a) then 1 else 0
def lx (a b:Int):Int:=bif decide (a=0) then b else a
def jO (x y:gM):Int:=lx (c3 (wrap64 x.2.1.1) (wrap64 y.2.1.1)) (lx (c3 x.2.1.2 y.2.1.2) (c3 x.2.2.1 y.2.2.1))
def kG (x y:aP):Int:=lx (c3 x.1 y.1) (c3 (wrap64 x.2.1) (wrap64 y.2.1))
theorem jgw {a b:Int}:c3 a b<0↔a<b:=by
 unfold c3;by_cases h:a<b
 ·simp[h]
 ·by_cases h2:b<a<;>simp[h,h2]
theorem jrv {a b:Int}:c3 a b=0↔a=b:=by
 unfold c3;by_cases h:a<b
 ·simp[h];omega
 ·by_cases h2:b<a<;>simp[h,h2]<;>omega
theorem jtr {a b:Int}:lx a b<0↔a<0\/a=0/\b<0:=by
 unfold lx;by_cases h:a=0
 ·simp[h]
 ·simp[h]
theorem d4 {x y:gM}:jO x y<0↔wrap64 x.2.1.1<wrap64 y.2.1.1\/wrap64 x.2.1.1=wrap64 y.2.1.1/\(x.2.1.2<y.2.1.2\/x.2.1.2=y.2.1.2/\x.2.2.1<y.2.2.1):=by
 unfold jO;rw[jtr,jtr,jgw,jgw,jgw,jrv,jrv]
theorem oG {x y:aP}:kG x y<0↔x.1<y.1\/x.1=y.1/\wrap64 x.2.1<wrap64 y.2.1:=by
 unfold kG;rw[jtr,jgw,jgw,jrv]
def qY (L:List gM):Bool:=M8 jO (sortC jO L)
def G9 (L:List aP):Bool:=M8 kG (sortC kG L)
theorem jfv:SWO (ltOf jO) where
 irrefl x:=by unfold ltOf;rw[iB,d4];omega
 trans x y z h k:=by
  unfold ltOf at *;rw[aO,d4] at *;omega
 ntrans x y z h k:=by
  unfold ltOf at *;rw[iB,d4] at *;omega
theorem jjl:SWO (ltOf kG) where
 irrefl x:=by unfold ltOf;rw[iB,oG];omega
 trans x y z h k:=by
  unfold ltOf at *;rw[aO,oG] at *;omega
 ntrans x y z h k:=by
  unfold ltOf at *;rw[iB,oG] at *;omega
theorem jzb {α:Type} {cf:α->α->Int} (hO:SWO (ltOf cf)):∀ {l:List α},M8 cf l=true->l.Pairwise λa b=>cf a b<0
 | [],_=>List.Pairwise.nil
 | [x],_=>qe0 _ _
 | x::y::l,h=>by
   simp only[M8,aT,aO] at h;have ih:=jzb hO (l:=y::l) (by simp only[M8,aT];exact h.2);refine jY.2 ⟨λa ha=>?_,ih⟩;rcases bK.1 ha with rfl | ha
   ·exact h.1
   ·have:=(jY.1 ih).1 a ha;have:=hO.trans x y a (by unfold ltOf;exact bJ h.1) (by unfold ltOf;exact bJ this);unfold ltOf at this;exact of_decide_eq_true this
theorem jzo {α:Type} {cf:α->α->Int} (hO:SWO (ltOf cf)) {L:List α} (h:M8 cf (sortC cf L)=true) (x:α) (hx:x∈L) (y:α) (hy:y∈L) (h1:¬cf x y<0) (h2:¬cf y x<0):x=y:=by
 have hp:=jzb hO h;have hx:=(tG cf L).symm.subset hx;have hy:=(tG cf L).symm.subset hy;obtain⟨i,hi,rfl⟩:=fZ hx;obtain⟨j,hj,rfl⟩:=fZ hy;rw[gZ] at hp;rcases rA i j with h | h | h
 ·exact absurd (hp i j hi hj h) h1
 ·subst h;rfl
 ·exact absurd (hp j i hj hi h) h2
theorem eqG (L:List gM) (h:qY L=true) (x:gM) (hx:x∈L) (y:gM) (hy:y∈L) (h1:¬jO x y<0) (h2:¬jO y x<0):x=y:=jzo jfv h x hx y hy h1 h2
theorem eqC (L:List aP) (h:G9 L=true) (x:aP) (hx:x∈L) (y:aP) (hy:y∈L) (h1:¬kG x y<0) (h2:¬kG y x<0):x=y:=jzo jjl h x hx y hy h1 h2
theorem X6 {α:Type} {cf:α->α->Int}:∀ {l:List α},(l.Pairwise λa b=>cf a b<0)->M8 cf l=true
 | [],_=>rfl
 | x::l,h=>by
   obtain⟨h1,h2⟩:=jY.1 h;simp only[M8,aT];refine⟨?_,X6 h2⟩;cases l with
   | nil=>rfl
   | cons y l=>exact bJ (h1 y (bM ..))
end X
end Go.Vm
namespace Go.Vm
namespace X
open W
def zI (p:Int×Int) (x:Nat):Int×Int:=((p.1+x)%65521,(p.2+ (p.1+x)%65521)%65521)
def rH (s:List Nat):Int×Int:=s.foldl zI (1,0)
def cO (s:List Nat):Int:=((rH s).2+17* (rH s).1)%65521
def xS:List Nat->Int
 | []=>0
 | x::l=>x+xS l
def xT:List Nat->Int
 | []=>0
 | x::l=>x* (l.length+1:Int)+xT l
theorem jvg:∀(l:List Nat) (a b:Int),∃k m:Int,(l.foldl zI (a,b)).1=a+xS l+65521*k/\(l.foldl zI (a,b)).2=b+l.length*a+xT l+65521*m
 | [],a,b=>⟨0,0,by simp[xS],by simp[xT]⟩
 | x::l,a,b=>by
   obtain⟨k,m,h1,h2⟩:=jvg l ((a+x)%65521) ((b+ (a+x)%65521)%65521);rw[Y6];show ∃k m:Int,(l.foldl zI ((a+x)%65521,(b+ (a+x)%65521)%65521)).1=_/\(l.foldl zI ((a+x)%65521,(b+ (a+x)%65521)%65521)).2=_;rw[h1,h2];obtain⟨q,hq⟩:∃q:Int,(a+x)%65521=a+x+65521*q:=⟨-((a+x) / 65521),by omega⟩
   rw[hq];obtain⟨r,hr⟩:∃r:Int,(b+ (a+x+65521*q))%65521=b+ (a+x+65521*q)+65521*r:=⟨-((b+ (a+x+65521*q)) / 65521),by omega⟩
   rw[hr];refine⟨k+q,m+r+q+l.length*q,?_,?_⟩
   ·simp only[xS];omega
   ·simp only[xT,cM];have e1:(l.length:Int)* (a+x+65521*q)=l.length*a+l.length*x+65521* (l.length*q):=by
     rw[qiz,qiz,Int.mul_left_comm]
    have e2:(x:Int)* (l.length+1)=l.length*x+x:=by rw[qiz,Int.mul_one,Int.mul_comm]
    have e3:((l.length+1:Nat):Int)*a=l.length*a+a:=by
     rw[Int.natCast_add,Int.add_mul];simp
    rw[e1,e2,e3];omega
def A1 (n:Int) (p:Int×Int) (x:Nat):Int×Int:=((p.1+1+x* (17+n-p.2))%65521,p.2+1)
theorem j3l:∀(l:List Nat) (n r i:Int),n-i=l.length->∃k:Int,(l.foldl (A1 n) (r,i)).1=r+l.length+xT l+17*xS l+65521*k
 | [],n,r,i,_=>⟨0,by simp[xS,xT]⟩
 | x::l,n,r,i,h=>by
   simp only[cM] at h;obtain⟨k,h1⟩:=j3l l n ((r+1+x* (17+n-i))%65521) (i+1) (by omega);rw[Y6];show ∃k:Int,(l.foldl (A1 n) ((r+1+x* (17+n-i))%65521,i+1)).1=_;rw[h1];obtain⟨q,hq⟩:∃q:Int,(r+1+x* (17+n-i))%65521=r+1+x* (17+n-i)+65521*q:=⟨-((r+1+x* (17+n-i)) / 65521),by omega⟩
   rw[hq];refine⟨k+q,?_⟩;have e1:(x:Int)* (17+n-i)=x* (l.length+1)+17*x:=by
    rw[show(17+n-i:Int)=(l.length+1)+17 by omega,qiz,Int.mul_comm (x:Int) 17]
   simp only[xT,xS,cM];rw[e1];omega
theorem jpa (s:List Nat):cO s=(s.foldl (A1 s.length) (17,0)).1%65521:=by
 obtain⟨k,m,h1,h2⟩:=jvg s 1 0;obtain⟨j,h3⟩:=j3l s s.length 17 0 (by omega);unfold cO rH;rw[h1,h2,h3];omega
theorem mI (s:List Nat):0<=cO s/\cO s<65521:=by unfold cO;omega
theorem j4u (s:List Nat):(0<=(rH s).1/\(rH s).1<65521)/\0<=(rH s).2/\(rH s).2<65521:=by
 unfold rH;have key:∀(l:List Nat) (p:Int×Int),((0<=p.1/\p.1<65521)/\0<=p.2/\p.2<65521)->((0<=(l.foldl zI p).1/\(l.foldl zI p).1<65521)/\0<=(l.foldl zI p).2/\(l.foldl zI p).2<65521):=by
  intro l;induction l with
  | nil=>exact λp h=>h
  | cons x l ih=>exact λp h=>ih _ (by simp only[zI];omega)
 exact key s (1,0) (by decide)
theorem kni (s:List Nat) (x:Nat):rH (s++[x])=zI (rH s) x:=by unfold rH;rw[P8];rfl
theorem jvf:∀(a:List Nat) (x:Nat) (b:List Nat),xT (a++x::b)=xT (a++0::b)+x* (b.length+1)/\xS (a++x::b)=xS (a++0::b)+x
 | [],x,b=>by simp only[eP,xT,xS];constructor<;>simp<;>omega
 | y::a,x,b=>by
   obtain⟨h1,h2⟩:=jvf a x b;simp only[fB,xT,xS,h1,h2,dG,cM];constructor<;>omega
def iX:List Nat->List (List Nat)
 | []=>[]
 | x::s=>bif x.beq 10 then [10]::iX s else match iX s with
   | []=>[[x]]
   | w::ws=>(x::w)::ws
theorem o8 {s:List Nat}:iX s=[]↔s=[]:=by
 cases s with
 | nil=>simp[iX]
 | cons x s=>
   simp only[iX];cases x.beq 10<;>simp only[aF,aG]
   ·split<;>simp
   ·simp
theorem jie:∀s:List Nat,(iX s).flatten=s
 | []=>rfl
 | x::s=>by
   have ih:=jie s;simp only[iX];cases h:x.beq 10<;>simp only[aF,aG]
   ·split
    ·rename_i e;rw[o8] at e;subst e;rfl
    ·rename_i w ws e;rw[e] at ih;simpa using ih
   ·have:x=10:=uO h;subst this;simp[ih]
theorem jeu:∀ {a b:List Nat},10∉a->iX (a++10::b)=(a++[10])::iX b
 | [],b,_=>rfl
 | x::a,b,h=>by
   simp only[bK,not_or] at h;have hx:x.beq 10=false:=by
    cases e:x.beq 10
    ·rfl
    ·exact absurd (uO e).symm h.1
   simp only[fB,iX,hx,aG,jeu h.2]
theorem jev:∀ {a:List Nat},a≠[]->10∉a->iX a=[a]
 | [],h,_=>absurd rfl h
 | x::a,_,h=>by
   simp only[bK,not_or] at h;have hx:x.beq 10=false:=by
    cases e:x.beq 10
    ·rfl
    ·exact absurd (uO e).symm h.1
   cases a with
   | nil=>simp only[iX,hx,aG]
   | cons y a=>
     have ih:=jev (List.cons_ne_nil y a) h.2
     show(bif x.beq 10 then _ else match iX (y::a) with
      | []=>[[x]]
      | w::ws=>(x::w)::ws)=_
     rw[ih,hx];rfl
theorem j0k (c:UInt8):∀l:List UInt8,(Lib.indexByte l c= -1/\c∉l)\/∃i:Nat,Lib.indexByte l c=i/\i<l.length/\l=l.take i++c::l.drop (i+1)/\c∉l.take i
 | []=>.inl ⟨rfl,by simp⟩
 | b::l=>by
   by_cases e:b=c
   ·subst e;refine .inr ⟨0,by simp[Lib.indexByte],by simp,by simp,by simp⟩
   ·have e':(b==c)=false:=by simpa using e
    rcases j0k c l with⟨h1,h2⟩ | ⟨i,h1,h2,h3,h4⟩
    ·refine .inl ⟨by simp[Lib.indexByte,e',h1],?_⟩;simp only[bK,not_or];exact⟨P9 e,h2⟩
    ·refine .inr ⟨i+1,?_,by simp;omega,?_,?_⟩
     ·have:(Lib.indexByte l c== -1)=false:=by rw[h1];simp
      simp only[Lib.indexByte,e',this,h1];simp
     ·simp only[zA,qf2,fB];rw[<-h3]
     ·simp only[zA,bK,not_or];exact⟨P9 e,h4⟩
end X
end Go.Vm
