/- Parts of the proof. -/
import Derived.Test.YtccefhabickfiaaGreatDoorXG5
set_option linter.unusedSimpArgs false
set_option linter.defProp false
set_option linter.unusedVariables false
namespace Go.Vm
namespace X
open W
variable {B:Base} {call:FuncId->List AV->Tr Blk->Nat->Nat->bN} {ro:Nat} {e:Env} {c:Cnv} {S:St} {tm:Tr AV} {H:Tr Blk} {nx:Nat} {ν:Nm} {F:aQ} {M R:List Ent}
def Ac:Nat->List SV->gV
 | _,[]=>[]
 | n,a::l=>(n,a)::Ac (n+1) l
def jly:∀(ss:List SV) (i n:Nat),cR (Ac i ss) n=if n<i then none else ss[n-i]?
 | [],i,n=>by simp[Ac,cR]
 | a::as,i,n=>by
   simp only[Ac,cR,aL];by_cases h:i=n
   ·subst h;simp
   ·simp only[h,bM,aF];rw[jly as (i+1) n];by_cases h2:n<i
    ·rw[aK (by omega),aK h2]
    ·rw[aD (by omega),aD h2,show n-i=n-(i+1)+1 by omega];rfl
def jy3 {ss:List SV} {vs:List AV} (h:bC ν F ss vs) {n:Nat} {s:SV} (hn:cR (Ac 0 ss) n=some s):aJ ν F s (aT (put vs 0 .e) (.t n)):=by
 rw[jly] at hn;simp only[Tk,cO,nN] at hn;obtain⟨v,h1,h2⟩:=wQ h hn;obtain⟨h3,h4⟩:=jG.1 h1;have:aT (put vs 0 .e) (.t n)=v:=by simp[aT,mP,h3,h4]
 rw[this];exact h2
def jc1 (e:Env) (S:St):CRes->Option SV
 | .t n=>cR (S.fr++e.ct) n
 | .cell a agg size=>match cR (S.fr++e.ct) a with
   | some p=>Rq (look e S) agg size p
   | none=>none
def Ma (e:Env) (S:St):List CRes->Option (List SV)
 | []=>some []
 | r::l=>match jc1 e S r,Ma e S l with
   | some s,some ss=>some (s::ss)
   | _,_=>none
def yD:List SV->SV
 | [s]=>s
 | ss=>.tup ss
def j6v (h:ConX B ro e c S tm H nx ν F M R) {r:CRes} {s:SV} (hs:jc1 e S r=some s):∃v,Gj tm H r=some v/\aJ ν F s v:=by
 cases r with
 | t n=>exact⟨_,rfl,h.fr n s hs⟩
 | cell a agg size=>
   simp only[jc1] at hs;split at hs<;>try (cases hs;done)
   rename_i p hp;obtain⟨b,o,l,u,h1,h2,h3,h4⟩:=jlm h hs (h.fr a p hp);obtain⟨tc,k1,k2⟩:=h2;obtain⟨k3,k4⟩:=jln h3;have hg:tm.get a=some (.ptr b o):=by
    simp only[aT] at h1;cases hq:tm.get a with
    | none=>rw[hq] at h1;cases h1
    | some x=>rw[hq] at h1;simp only[nL] at h1;rw[h1]
   refine⟨u,?_,h4⟩;simp only[Gj,hg,k1,aP,k3,bA,aB,take_at (H:=H) (b:=b) k2 size o k3,k4]
def joz (h:ConX B ro e c S tm H nx ν F M R):∀ {rs:List CRes} {ss:List SV},Ma e S rs=some ss->∃vs,sX tm H rs=some vs/\bC ν F ss vs
 | [],ss,hs=>by cases hs;exact⟨[],rfl,rfl⟩
 | r::l,ss,hs=>by
   simp only[Ma] at hs;split at hs<;>cases hs
   rename_i s ss h1 h2;obtain⟨v,k1,k2⟩:=j6v h h1;obtain⟨vs,k3,k4⟩:=joz h h2;exact⟨v::vs,by simp only[sX,k1,k3],v,vs,rfl,k2,k4⟩
def jcj {ss:List SV} {vs:List AV} (h:bC ν F ss vs):aJ ν F (yD ss) (W.pack vs):=by
 match ss,h with
 | [],h=>simp only[bC] at h;subst h;exact⟨[],rfl,rfl⟩
 | [s],⟨v,_,e,h1,e2⟩=>simp only[bC] at e2;subst e2;subst e;exact h1
 | s::s'::l,⟨v,m,e,h1,h2⟩=>
   obtain⟨v',m',e',h3,h4⟩:=h2;subst e';subst e;exact⟨_,rfl,v,_,rfl,h1,v',m',rfl,h3,h4⟩
structure Fx where
 nt:Nat
 res:List CRes
 body:AC
 hint:Hint
def Fx.cfn (x:Fx):CFn:=⟨x.nt,x.res,x.body.cc⟩
def Cc {α:Type} (N:Nat) (ch:CH) (x:Fx) (e:Env) (mv:bE) (nc:Nat) (ss:List SV) (k:SV->St->Option α):Option α:=
 sw (ss.length.ble x.nt) (sx N ch x.hint x.body { e with b0:=nc } ⟨Ac 0 ss,mv,nc⟩ λex S'=>match ex with
  | .exit _=>none
  | _=>match Ma e S' x.res with
    | some rs=>k (yD rs) S'
    | none=>none) none
def jd1 {ch:CH} (hch:mY B call ch) {α:Type} {x:Fx} {mv:bE} {nc:Nat} {ss:List SV} {k:SV->St->Option α} {r:α} (hs:Cc fuel ch x e mv nc ss k=some r) (hct:e.ct=[])
  (h:ConX B ro e c ⟨[],mv,nc⟩ tm H nx ν F M R) {vs:List AV} (hv:bC ν F ss vs):
  ∃v H' nx' s S' tm' ν' F' M' R',tL call ro x.cfn vs H nx=some (v,H',nx')/\ConX B ro e c S' tm' H' nx' ν' F' M' R'/\aJ ν' F' s v/\k s S'=some r:=by
 unfold Cc at hs;obtain⟨hlen,hs⟩:=nS hs;have h0:mM B ro { e with b0:=nc } c ⟨Ac 0 ss,mv,nc⟩ (put vs 0 .e) H nx:=by
  refine⟨ν,F,M,R,h.hk,λn s hn=>?_,h.ov,h.mv,h.wr,h.mc,h.fz,h.gl⟩;rw[hct,jQ] at hn;exact jy3 hv hn
 obtain⟨ex,tm',H',nx',h1,h2⟩:=tF hch x.body (Post:=λex tm H nx=>(∀i,ex≠ .exit i)/\∃s S' vs' ν' F' M' R',sX tm H x.res=some vs'/\ConX B ro e c S' tm H nx ν' F' M' R'/\aJ ν' F' s (W.pack vs')/\k s S'=some r) hs (λex S' hS' tm H nx hC=>by
  obtain⟨ν',F',M',R',hC⟩:=hC;have hC:ConX B ro e c S' tm H nx ν' F' M' R':=⟨hC.hk,hC.fr,hC.ov,hC.mv,hC.wr,hC.mc,hC.fz,hC.gl⟩
  have fin:(match Ma e S' x.res with
   | some rs=>k (yD rs) S'
   | none=>none)=some r->∃s S' vs' ν' F' M' R',sX tm H x.res=some vs'/\ConX B ro e c S' tm H nx ν' F' M' R'/\aJ ν' F' s (W.pack vs')/\k s S'=some r:=by
   intro hS';split at hS'<;>try (cases hS';done)
   rename_i rs hrs;obtain⟨vs',k1,k2⟩:=joz hC hrs;exact⟨_,S',vs',ν',F',M',R',k1,hC,jcj k2,hS'⟩
  cases ex with
  | exit i=>cases hS'
  | normal=>exact⟨λi h=>(by cases h),fin hS'⟩
  | ret=>exact⟨λi h=>(by cases h),fin hS'⟩) _ _ _ h0
 obtain⟨hne,s,S',vs',ν',F',M',R',k1,k2,k3,k4⟩:=h2;refine⟨W.pack vs',H',nx',s,S',tm',ν',F',M',R',?_,k2,k3,k4⟩;have e1:(match sX tm' H' x.res with | some [v]=>some (v,H',nx') | some vs=>some (.tup vs,H',nx') | none=>(none:bN))=some (W.pack vs',H',nx'):=by
  rw[k1];rcases vs' with _ | ⟨v,_ | ⟨w,l⟩⟩<;>rfl
 have hlen':(vs.length.ble x.cfn.nt)=true:=by rw[<-jL hv];exact hlen
 unfold tL;rw[hlen',jP];simp only[aB];have h1':exec call ro x.cfn.body (put vs 0 .e,H,nx)=some (ex,tm',H',nx'):=h1;rw[h1'];cases ex with
 | normal=>exact e1
 | ret=>exact e1
 | exit i=>exact absurd rfl (hne i)
def jt8 {b:Nat} {sb:SB} {E:List Ent} (h:dR ν F b sb (E.map eG)):dR ν F b sb E:=by
 have one:∀ {w:Bool} {bl:Nat} {cc:HB},E.map eG=[⟨bl,w,cc⟩]->∃w',E=[⟨bl,w',cc⟩]:=by
  intro w bl cc h
  match E,h with
  | [x],h=>
    simp only[dA,nO,eG,kX,Ent.mk.injEq,mD] at h;obtain⟨h1,_,h2⟩:=h;exact⟨x.w,by cases x;simp only at h1 h2;subst h1;subst h2;rfl⟩
  | [],h=>cases h
  | _::_::_,h=>cases h
 cases sb with
 | lit l=>obtain⟨w,m,e1,h⟩:=h;obtain⟨w',e2⟩:=one e1;exact⟨w',m,e2,h⟩
 | fix t n L=>obtain⟨w,m,e1,h⟩:=h;obtain⟨w',e2⟩:=one e1;exact⟨w',m,e2,h⟩
 | mp k v L=>obtain⟨w,m,e1,h⟩:=h;obtain⟨w',e2⟩:=one e1;exact⟨w',m,e2,h⟩
 | arr t L cap=>
   obtain⟨h0,h⟩:=h;refine⟨h0,h.imp (fun⟨a,b⟩=>⟨a,List.map_eq_nil_iff.1 b⟩) fun⟨w,m,e1,h⟩=>?_⟩;obtain⟨w',e2⟩:=one e1;exact⟨w',m,e2,h⟩
def jfp:∀ {m:bE} {Ms:List (List Ent)},iE ν F m (Ms.map (List.map eG))->iE ν F m Ms
 | [],Ms,h=>by simpa[iE] using h
 | (b,sb)::m,Ms,⟨E,Ms',e1,h1,h2⟩=>by
   match Ms,e1 with
   | E0::Ms,e1=>
     simp only[dA,kX] at e1;obtain⟨rfl,rfl⟩:=e1;exact⟨E0,Ms,rfl,jt8 h1,jfp h2⟩
def jt5 {b:Nat} {sb:SB} {E:List Ent} (h:dR ν F b sb E):dR ν F b sb (E.map eG):=by
 cases sb with
 | lit l=>obtain⟨w,m,e1,h⟩:=h;exact⟨false,m,by rw[e1];rfl,h⟩
 | fix t n L=>obtain⟨w,m,e1,h⟩:=h;exact⟨false,m,by rw[e1];rfl,h⟩
 | mp k v L=>obtain⟨w,m,e1,h⟩:=h;exact⟨false,m,by rw[e1];rfl,h⟩
 | arr t L cap=>
   obtain⟨h0,h⟩:=h;exact⟨h0,h.imp (fun⟨a,b⟩=>⟨a,by rw[b];rfl⟩) fun⟨w,m,e1,h⟩=>⟨false,m,by rw[e1];rfl,h⟩⟩
def jfo:∀ {m:bE} {Ms:List (List Ent)},iE ν F m Ms->iE ν F m (Ms.map (List.map eG))
 | [],Ms,h=>by simp only[iE] at h;subst h;rfl
 | (b,sb)::m,Ms,⟨E,Ms',e1,h1,h2⟩=>by subst e1;exact⟨_,_,rfl,jt5 h1,jfo h2⟩
def jui {O:List Ent} {b:Nat} {x:HB} (h:Has (O.map eG) b x):Has O b x:=by
 obtain⟨w,hm⟩:=h.mem;obtain⟨y,hy,e⟩:=bU.1 hm;simp only[eG,Ent.mk.injEq] at e;obtain⟨rfl,_,rfl⟩:=e;exact Has.of_mem (w:=y.w) hy
def Rb (N:Nat) (code:FuncId->Option Fx) (ch:CH):CH:=λα q f ss e S k=>match code f with
 | none=>none
 | some x=>sw q (Cc N ch x ⟨[],(dd (S.fr++e.ct)).map Prod.snd++e.ov,S.mv++e.mc,e.G,0⟩ [] S.nc ss λs S'=>k s ⟨S.fr,S'.mv++S.mv,S'.nc⟩)
   (Cc N ch x ⟨[],(dd (S.fr++e.ct)).map Prod.snd++e.ov,e.mc,e.G,0⟩ S.mv S.nc ss λs S'=>k s ⟨S.fr,S'.mv,S'.nc⟩)
def jkt {code:FuncId->Option Fx} {ch:CH} {call':FuncId->List AV->Tr Blk->Nat->Nat->bN} (hch:mY B call ch) (hcode:∀f x,code f=some x->∀vs H nx ro,call' f vs H nx ro=tL call ro x.cfn vs H nx):mY B call' (Rb fuel code ch):=by
 intro α q f ss e S k r hs ro c tm H nx ν F M R h vs hv;unfold Rb at hs;split at hs<;>try (cases hs;done)
 rename_i x hx;have hcall:=hcode f x hx;have hov:bC ν F ((dd (S.fr++e.ct)).map Prod.snd++e.ov) ((dd (S.fr++e.ct)).map (λx=>aT tm (.t x.1))++c.oa):=
  nX (Xt λy hy=>h.fr _ _ (Zd hy)) h.ov
 have back:∀ {ν':Nm} {F':aQ},bC ν' F' ((dd (S.fr++e.ct)).map Prod.snd++e.ov) ((dd (S.fr++e.ct)).map (λx=>aT tm (.t x.1))++c.oa)->
   (∀n s,cR (S.fr++e.ct) n=some s->aJ ν' F' s (aT tm (.t n)))/\bC ν' F' e.ov c.oa:=by
  intro ν' F' h';obtain⟨k1,k2⟩:=Ie (by simp) h';exact⟨λn s hn=>Xu k1 _ (Ze hn),k2⟩
 cases q with
 | false=>
   have hs:Cc fuel ch x _ _ _ _ _=some r:=hs;have hC:ConX B ro ⟨[],(dd (S.fr++e.ct)).map Prod.snd++e.ov,e.mc,e.G,0⟩ ⟨(dd (S.fr++e.ct)).map (λx=>aT tm (.t x.1))++c.oa,c.Ml,c.P,R++c.OF⟩ ⟨[],S.mv,S.nc⟩ tm H nx ν F M []:=by
    refine⟨h.hk.perm ?_,λn s hn=>(by cases hn),hov,h.mv,h.wr,h.mc,h.fz,h.gl⟩;simp only[Cnv.Mc,Cnv.O0,dZ];exact dW _ (dW _ (fW _ _ _))
   obtain⟨v,H',nx',s,S',tm',ν',F',M',R',h1,h2,h3,h4⟩:=jd1 hch hs rfl hC hv;obtain⟨b1,b2⟩:=back h2.ov;refine⟨v,H',nx',s,⟨S.fr,S'.mv,S'.nc⟩,ν',F',M',R'++R,by rw[hcall];exact h1,⟨h2.hk.perm ?_,b1,b2,h2.mv,h2.wr,h2.mc,λy hy=>?_,h2.gl⟩,h3,h4⟩
   ·simp only[Cnv.Mc,Cnv.O0,cD];exact dW _ (dW _ (dW _ (fW _ _ _)))
   ·rw[cD];exact h2.fz y hy
 | true=>
   have hs:Cc fuel ch x _ _ _ _ _=some r:=hs;obtain⟨Ml,rfl,hMl⟩:=Cu h.mv;have hq:=h.hk.quiet;have hC:ConX B nx ⟨[],(dd (S.fr++e.ct)).map Prod.snd++e.ov,S.mv++e.mc,e.G,0⟩ ⟨(dd (S.fr++e.ct)).map (λx=>aT tm (.t x.1))++c.oa,(Ml++c.Ml).map (List.map eG),c.P.map eG,(R++c.OF).map eG⟩ ⟨[],[],S.nc⟩ tm H nx ν F [] []:=by
    refine⟨hq.perm ?_,λn s hn=>(by cases hn),hov,rfl,λx hx=>(by cases hx),jfo (Ct hMl h.mc),λy hy=>?_,h.gl⟩
    ·simp only[Cnv.Mc,Cnv.O0,dZ,fY,vQ,cD,<-List.map_flatten];exact dW _ (dW _ (fW _ _ _))
    ·rcases h.fz y hy with h1 | h1
     ·exact .inl (by rw[dZ];exact h1.quiet)
     ·exact .inr h1
   obtain⟨v,H',nx',s,S',tm',ν',F',M',R',h1,h2,h3,h4⟩:=jd1 hch hs rfl hC hv;obtain⟨b1,b2⟩:=back h2.ov;have hmc:=jfp h2.mc;obtain⟨m1,m2⟩:=Om (Hz hMl) hmc;have hun:=h.hk.unquiet (N:=M'++R') (h2.hk.perm (by
    simp only[Cnv.Mc,Cnv.O0,fY,vQ,cD,<-List.map_flatten];refine dW _ ?_;have p1:=fW (R') (Ml.flatten.map eG++(c.Ml.flatten.map eG)) (R.map eG++(c.P.map eG++c.OF.map eG));have p2:(Ml.flatten.map eG++(c.Ml.flatten.map eG++(R'++(R.map eG++(c.P.map eG++c.OF.map eG))))).Perm (Ml.flatten.map eG++(c.Ml.flatten.map eG++(R'++(c.P.map eG++(R.map eG++c.OF.map eG))))):=
     dW _ (dW _ (dW _ (fW _ _ _)))
    simp only[cD] at p1;exact p1.trans p2))
   refine⟨v,H',nx',s,⟨S.fr,S'.mv++S.mv,S'.nc⟩,ν',F',M'++Ml.flatten,R'++R,by rw[hcall];exact h1,⟨hun.perm ?_,b1,b2,uJ h2.mv (Hy m1),λy hy=>?_,m2,λy hy=>?_,h2.gl⟩,h3,h4⟩
   ·simp only[Cnv.Mc,Cnv.O0,cD];refine dW _ ?_;have p1:=fW (R') (Ml.flatten++c.Ml.flatten) (R++(c.P++c.OF));simp only[cD] at p1;exact p1.symm
   ·rcases aZ.1 hy with h5 | h5
    ·exact h2.wr y h5
    ·exact h.wr y h5
   ·rcases h2.fz y hy with h5 | h5
    ·left;obtain⟨w,hm⟩:=h5.mem;rcases aZ.1 hm with h6 | h6
     ·exact Has.of_mem (w:=w) (by simp[h6])
     ·have:=jui (Has.of_mem h6);obtain⟨w2,hm2⟩:=this.mem;exact Has.of_mem (w:=w2) (by
       rcases aZ.1 hm2 with h7 | h7<;>simp[h7])
    ·exact .inr h5
end X
end Go.Vm
namespace Go.Vm
namespace X
open W
variable {B:Base} {call:FuncId->List AV->Tr Blk->Nat->Nat->bN} {ro:Nat} {e:Env} {c:Cnv} {S:St} {tm:Tr AV} {H:Tr Blk} {nx:Nat} {ν:Nm} {F:aQ} {M R:List Ent}
structure TE where
 f:FuncId
 ins:List Rep
 outs:List Rep
 run:eE ins->Option (eE outs)
def uK (F:aQ) (outs:List Rep) (x:eE outs) (v:AV) (E:List Ent):Prop:=∃vs,v=W.pack vs/\lT F outs x vs E
def iW (B:Base) (x:Nat×HB):Prop:=x.1<B.nx0/\x.2.At B.H0 x.1
def TE.OK (B:Base) (call:FuncId->List AV->Tr Blk->Nat->Nat->bN) (t:TE):Prop:=
 ∀a r,t.run a=some r->∀ro O E0 H nx,HK B ro (E0++O) H nx->(∀x∈E0,x.w=true)->∀A:aQ,(∀x∈A,Has O x.1 x.2\/iW B x)->∀vs,lT A t.ins a vs E0->
  ∃v E N H' nx' F',call t.f vs H nx ro=some (v,H',nx')/\HK B ro (E++(N++O)) H' nx'/\(∀x∈E,x.w=true)/\(∀x∈F',Has N x.1 x.2\/x∈A\/iW B x)/\uK F' t.outs r v E
def Ty.noSl:Ty->Bool
 | .sl _ | .slx _=>false
 | .prod a b=>a.noSl&&b.noSl
 | .arr _ t=>t.noSl
 | _=>true
def Rep.noSl:Rep->Bool
 | .d t | .own t | .ownc t | .ownx t=>t.noSl
 | .dn _=>false
 | .sf _=>false
 | .aw t=>t.noSl
 | .mp k v=>k.noSl&&v.noSl
 | .dx _=>false
 | .p a b=>a.noSl&&b.noSl
 | _=>true
def zH {F':aQ}:∀(t:Ty),t.noSl=true->∀(x:t.den) (l:List AV),aX F t x l->aX F' t x l
 | .int k,_,x,l,h=>h
 | .bool,_,x,l,h=>h
 | .str,_,x,l,h=>h
 | .unit,_,x,l,h=>h
 | .prod a b,ht,x,l,⟨l1,l2,e,h1,h2⟩=>by
   simp only[Ty.noSl,aN] at ht;exact⟨l1,l2,e,zH a ht.1 _ _ h1,zH b ht.2 _ _ h2⟩
 | .arr n t,ht,x,l,⟨h1,h2⟩=>⟨h1,lB (zH t ht) h2⟩
 | .sl t,ht,x,l,h=>by cases ht
 | .slx t,ht,x,l,h=>by cases ht
def Ot {F':aQ} {t:Ty} (ht:t.noSl=true) {L:List t.den} {cap:Option Nat} {v:AV} {E:List Ent} (h:oV F t L cap v E):oV F' t L cap v E:=by
 obtain⟨x,h1,h0,h2⟩:=h;exact⟨x,h1,h0,h2.imp id fun⟨w,m,e1,h3,h4,h5⟩=>⟨w,m,e1,h3,lB (zH t ht) h4,h5⟩⟩
def jf1 {F':aQ} {t:Ty} (ht:t.noSl=true) {x:t.den} {v:AV} (h:Rel F t x v):Rel F' t x v:=by
 unfold Rel at h ⊢;cases ha:t.agg with
 | true=>rw[ha] at h;obtain⟨l,e,h⟩:=h;exact⟨l,e,zH t ht _ _ h⟩
 | false=>rw[ha] at h;exact zH t ht _ _ h
def jft {F':aQ} {k v:Ty} (hk:k.noSl=true) (hv:v.noSl=true):∀ {L:List (k.den×v.den)} {m:List (AV×AV)},rR F k v L m->rR F' k v L m
 | [],_,h=>h
 | _::_,_,⟨a,b,m',e,h1,h2,h3⟩=>⟨a,b,m',e,jf1 hk h1,jf1 hv h2,jft hk hv h3⟩
def Oz {F':aQ}:∀(r:Rep),r.noSl=true->∀(x:r.den) (l:List AV) (E:List Ent),oW F r x l E->oW F' r x l E
 | .d t,ht,x,l,E,⟨h1,h2,h3⟩=>⟨h1,zH t ht _ _ h2,h3⟩
 | .own t,ht,x,l,E,⟨v,e1,h⟩=>⟨v,e1,Ot ht h⟩
 | .ownc t,ht,x,l,E,⟨v,e1,h⟩=>⟨v,e1,Ot ht h⟩
 | .ownx t,ht,x,l,E,⟨v,e1,h⟩=>⟨v,e1,Ot ht h⟩
 | .p a b,ht,x,l,E,⟨l1,l2,E1,E2,e1,e2,h1,h2⟩=>by
   simp only[Rep.noSl,aN] at ht;exact⟨l1,l2,E1,E2,e1,e2,Oz a ht.1 _ _ _ h1,Oz b ht.2 _ _ _ h2⟩
 | .u,_,x,l,E,h=>h
 | .err,_,x,l,E,h=>h
 | .fn f,_,x,l,E,h=>h
 | .nl,_,x,l,E,h=>h
 | .aw t,ht,x,l,E,⟨v,e1,h⟩=>⟨v,e1,Ot ht h⟩
 | .mp k v,ht,x,l,E,⟨b,m,e1,e2,h⟩=>by
   simp only[Rep.noSl,aN] at ht;exact⟨b,m,e1,e2,jft ht.1 ht.2 h⟩
 | .dn t,ht,x,l,E,h=>by cases ht
 | .dx t,ht,x,l,E,h=>by cases ht
 | .sf t,ht,x,l,E,h=>by cases ht
def jf4 {F':aQ} {r:Rep} (hr:r.noSl=true) {x:r.den} {v:AV} {E:List Ent} (h:gC F r x v E):gC F' r x v E:=by
 unfold gC at h ⊢;cases ha:r.agg with
 | true=>
   rw[ha] at h;obtain⟨m,e1,h⟩:=h;exact⟨m,e1,Oz r hr _ _ _ h⟩
 | false=>
   rw[ha] at h;exact Oz r hr _ _ _ h
def jf6 {F':aQ}:∀ {l:List Rep},l.all Rep.noSl=true->∀ {x:eE l} {vs:List AV} {E:List Ent},lT F l x vs E->lT F' l x vs E
 | [],_,x,vs,E,h=>h
 | [r],hr,x,vs,E,⟨v,e1,h⟩=>by
   simp only[vS,List.all_nil,nM] at hr;exact⟨v,e1,jf4 hr h⟩
 | r::r'::l,hr,x,vs,E,⟨v,vs',E1,E2,e1,e2,h1,h2⟩=>by
   simp only[vS,aN] at hr;exact⟨v,vs',E1,E2,e1,e2,jf4 hr.1 h1,jf6 (l:=r'::l) (by simp[vS,hr.2.1,hr.2.2]) h2⟩
def Pc {F':aQ} (hF:∀x∈F,x∈F'):∀ {l:List Rep} {x:eE l} {vs:List AV} {E:List Ent},lT F l x vs E->lT F' l x vs E
 | [],x,vs,E,h=>h
 | [r],x,vs,E,⟨v,e1,h⟩=>⟨v,e1,Pb hF h⟩
 | r::r'::l,x,vs,E,⟨v,vs',E1,E2,e1,e2,h1,h2⟩=>⟨v,vs',E1,E2,e1,e2,Pb hF h1,Pc hF h2⟩
def wT (lm:Nat->Option SB) (r:Rep) (s:SV):Option r.den:=match r with
 | .d t=>bif t.ok then As lm t s else none
 | .err=>match s with
   | .err b=>some b
   | .nili=>some true
   | _=>none
 | .fn f=>match s with
   | .fn f' [] []=>bif Nat.beq f' f then some () else none
   | _=>none
 | .nl=>match s with
   | .nils=>some ()
   | _=>none
 | .sf f=>match s with
   | .sptr f'=>bif Nat.beq f' f then some () else none
   | .ptr b 0=>match lm b with
     | some (.lit [.fn f' [] [.ptr b' 0]])=>bif Nat.blt b gB&&Nat.beq f' f&&Nat.beq b' b then some () else none
     | _=>none
   | _=>none
 | _=>none
def Xx (ν:Nm) (F:aQ) (lm:Nat->Option SB):Prop:=∀b f,b<gB->lm b=some (.lit [.fn f [] [.ptr b 0]])->((ν b).1,HB.cells [.fn (.func f) [] [.ptr (ν b).1 0]])∈F
def ConX.selfR (h:ConX B ro e c S tm H nx ν F M R):Xx ν (Ih F c M) (X.look e S):=by
 intro b f hb hl;unfold X.look at hl;split at hl
 ·rename_i y hy;cases hl;obtain⟨M1,E,M2,e1,⟨w,m,rfl,hm⟩,_⟩:=wM (uJ h.mv h.mcm) hy;obtain⟨v,_,rfl,⟨a',c',rfl,h1,⟨u,_,rfl,h2,rfl⟩⟩,rfl⟩:=hm;simp only[bC] at h1;subst h1;simp only[aJ] at h2;subst h2;refine aZ.2 (.inr ?_);rw[e1];exact bU.2 ⟨⟨(ν b).1,w,.cells [.fn (.func f) [] [.ptr (ν b).1 0]]⟩,by simp,rfl⟩
 ·have:=(h.gl.2 _ _ hl).1;omega
def zQ (lm:Nat->Option SB):(l:List Rep)->List SV->Option (eE l)
 | [],ss=>match ss with
   | []=>some ()
   | _=>none
 | [r],ss=>match ss with
   | [s]=>wT lm r s
   | _=>none
 | r::r'::l,ss=>match ss with
   | s::ss=>match wT lm r s,zQ lm (r'::l) ss with
     | some x,some y=>some (x,y)
     | _,_=>none
   | _=>none
def jg0 {lm:Nat->Option SB} (ho:zF ν F lm) (hsf:Xx ν F lm) {r:Rep} {s:SV} {x:r.den} (h:wT lm r s=some x) {v:AV} (hv:aJ ν F s v):gC F r x v []:=by
 cases r with
 | d t=>
   simp only[wT] at h;obtain⟨ht,h⟩:=aR h;have:=Kx ho h hv;unfold Rel at this;unfold gC;simp only[Rep.agg];cases ha:t.agg with
   | true=>
     rw[ha] at this;obtain⟨m,e1,h1⟩:=this;exact⟨m,e1,ht,h1,rfl⟩
   | false=>
     rw[ha] at this;exact⟨ht,this,rfl⟩
 | err=>
   simp only[wT] at h;split at h<;>try (cases h;done)
   ·cases h;exact⟨v,rfl,hv,rfl⟩
   ·cases h;exact⟨v,rfl,.inl ⟨rfl,hv⟩,rfl⟩
 | fn f=>
   simp only[wT] at h;split at h<;>try (cases h;done)
   obtain⟨hf,h⟩:=aR h;rw[aL,aH] at hf;subst hf;obtain⟨a',c',rfl,h1,h2⟩:=hv;simp only[bC] at h1 h2;subst h1;subst h2;exact⟨rfl,rfl⟩
 | nl=>
   simp only[wT] at h;split at h<;>try (cases h;done)
   have hv:v=.nils:=hv;subst hv;exact⟨rfl,rfl⟩
 | sf f=>
   simp only[wT] at h;split at h<;>try (cases h;done)
   ·obtain⟨hf,h⟩:=aR h;rw[aL,aH] at hf;subst hf;obtain⟨b,rfl,hb⟩:=hv;exact⟨⟨b,rfl,hb⟩,rfl⟩
   ·split at h<;>try (cases h;done)
    rename_i b f' b' hl;obtain⟨hf,h⟩:=aR h;simp only[aN,aL,aH,Nat.blt,aP] at hf;obtain⟨⟨h1,rfl⟩,rfl⟩:=hf;have hv:v=.ptr (ν b').1 0:=hv;subst hv;exact⟨⟨_,rfl,hsf b' f' (by omega) hl⟩,rfl⟩
 | _=>cases h
def Yi {lm:Nat->Option SB} (ho:zF ν F lm) (hsf:Xx ν F lm):∀ {l:List Rep} {ss:List SV} {x:eE l},zQ lm l ss=some x->∀ {vs:List AV},bC ν F ss vs->lT F l x vs []
 | [],ss,x,h,vs,hv=>by
   simp only[zQ] at h;split at h<;>cases h
   exact⟨hv,rfl⟩
 | [r],ss,x,h,vs,hv=>by
   simp only[zQ] at h;split at h<;>try (cases h;done)
   obtain⟨v,_,rfl,h1,rfl⟩:=hv;exact⟨v,rfl,jg0 ho hsf h h1⟩
 | r::r'::l,ss,x,h,vs,hv=>by
   simp only[zQ] at h;split at h<;>try (cases h;done)
   split at h<;>cases h
   rename_i x y h1 h2;obtain⟨v,m,rfl,v1,v2⟩:=hv;exact⟨v,m,[],[],rfl,rfl,jg0 ho hsf h1 v1,Yi ho hsf h2 v2⟩
def Pu {α:Type} (t:TE) (ss:List SV) (e:Env) (S:St) (k:SV->St->Option α):Option α:=
 sw (t.outs.all Rep.noSl) (match zQ (look e S) t.ins ss with
  | some a=>(t.run a).bind λr=>match sG t.outs r e S with
    | some (rs,S)=>k (yD rs) S
    | none=>none
  | none=>none)
 (match xE S.mv ss with
   | some (mv,ss)=>match zQ qW t.ins ss with
     | some a=>(t.run a).bind λr=>match sG t.outs r e { S with mv:=mv } with
       | some (rs,S)=>k (yD rs) S
       | none=>none
     | none=>none
   | none=>none)
def Rep.owns:Rep->Bool
 | .own _ | .ownc _ | .ownx _ | .aw _ | .mp _ _=>true
 | .p a b=>a.owns||b.owns
 | _=>false
def Yp {α:Type} (t:TE) (ss:List SV) (e:Env) (S:St) (k:SV->St->Option α):Option α:=
 match qP t.ins S.mv ss with
  | some (c,mv,a)=>lF c ((t.run a).bind λr=>match sG t.outs r e { S with mv:=mv } with
     | some (rs,S)=>k (yD rs) S
     | none=>none)
  | none=>none
def Qs:List TE->FuncId->Option TE
 | [],_=>none
 | t::r,f=>bif Nat.beq t.f f then some t else Qs r f
def jjp:∀ {T:List TE} {f:FuncId} {t:TE},Qs T f=some t->t∈T/\t.f=f
 | [],f,t,h=>by cases h
 | t'::r,f,t,h=>by
   simp only[Qs] at h;cases hb:Nat.beq t'.f f<;>rw[hb] at h<;>simp only[aB,aF] at h
   ·obtain⟨h1,h2⟩:=jjp h;exact⟨bX _ h1,h2⟩
   ·cases h;rw[aL,aH] at hb;exact⟨bY ..,hb⟩
def jw8 {α:Type} (t:TE) (ss:List SV) (e:Env) (S:St) (k:SV->St->Option α):Option α:=Pu t (Aw (Kw ss) S ss).2 e (Aw (Kw ss) S ss).1 k
def Hf (T:List TE) (ch:CH):CH:=λα q f ss e S k=>match Qs T f with
 | some t=>sw (t.ins.any Rep.owns) (sw q none (Yp t ss e S k)) (sw (t.outs.all Rep.noSl) (Pu t ss e S k) (jw8 t ss e S k))
 | none=>ch α q f ss e S k
def jan {E:List Ent} {l:List Rep} (h:ConX B ro e (c.park E) S tm H nx ν F M R) {x:eE l} {v:AV} (hr:uK F l x v E) (hw:∀x∈E,x.w=true) {ss:List SV} {S':St} (hs:sG l x e S=some (ss,S')):
  ∃ν' M',ConX B ro e c S' tm H nx ν' F M' R/\aJ ν' F (yD ss) v:=by
 obtain⟨vs,rfl,hr⟩:=hr;obtain⟨ν',M',h1,h2,_⟩:=Jy l h hr hw hs;exact⟨ν',M',h1,jcj h2⟩
def Yr (S:St) (F:aQ) (M R:List Ent) (F2:aQ) (E0:List Ent) (h:ConX B ro e (c.park E0) S tm H nx ν F M R):∀(E N:List Ent) H' nx',HK B ro (E++(N++(M++(c.Mc++(R++c.O0))))) H' nx'->(∀x∈F2,Has (N++(R++c.OF)) x.1 x.2\/iW B x)->
  ConX B ro e (c.park E) S tm H' nx' ν (F2++F) M (N++R):=by
 intro E N H' nx' hk hF2;have up:∀x∈F,x∈F2++F:=λx hx=>aZ.2 (.inr hx)
 refine⟨hk.perm ?_,λn s hn=>nW up _ _ (h.fr n s hn),jT up _ _ h.ov,zD up h.mv,h.wr,zC up h.mc,λx hx=>?_,h.gl⟩
 ·have e1:(c.park E).O0=E++c.O0:=by simp[Cnv.O0,Cnv.park]
  rw[e1];show(M++(c.Mc++((N++R)++(E++c.O0)))).Perm _;rw[cD];have p1:(N++(R++(E++c.O0))).Perm (E++(N++(R++c.O0))):=(dW N (fW R E c.O0)).trans (fW N E _);have p2:(c.Mc++(E++(N++(R++c.O0)))).Perm (E++(N++(c.Mc++(R++c.O0)))):=(fW c.Mc E _).trans (dW E (fW c.Mc N _));have p3:(M++(E++(N++(c.Mc++(R++c.O0))))).Perm (E++(N++(M++(c.Mc++(R++c.O0))))):=(fW M E _).trans (dW E (fW M N _));exact(dW M ((dW c.Mc p1).trans p2)).trans p3
 ·rw[cD];rcases aZ.1 hx with hx | hx
  ·exact hF2 x hx
  ·exact(h.fz x hx).imp (λh=>Has.append_right h) id
def jh6 {t:TE} (ht:t.OK B call) {α:Type} {q:Bool} {ss:List SV} {k:SV->St->Option α} {r:α} (hs:Pu t ss e S k=some r) (h:ConX B ro e c S tm H nx ν F M R) {vs:List AV} (hv:bC ν F ss vs):
  ∃v H' nx' s S' ν' F' M' R',call t.f vs H nx (bif q then nx else ro)=some (v,H',nx')/\ConX B ro e c S' tm H' nx' ν' F' M' R'/\aJ ν' F' s v/\k s S'=some r:=by
 have base:∀(S:St) (F:aQ) (M R:List Ent) (A:aQ),ConX B ro e c S tm H nx ν F M R->∀a r,t.run a=some r->(∀x∈A,Has (M++(c.Mc++(R++c.O0))) x.1 x.2\/iW B x)->lT A t.ins a vs []->
   ∃v E N H' nx' F',call t.f vs H nx (bif q then nx else ro)=some (v,H',nx')/\HK B ro (E++(N++(M++(c.Mc++(R++c.O0))))) H' nx'/\(∀x∈E,x.w=true)/\(∀x∈F',Has N x.1 x.2\/x∈A\/iW B x)/\uK F' t.outs r v E:=by
  intro S F M R A h a r hr hA hargs;cases q with
  | false=>
    obtain⟨v,E,N,H',nx',F',h1,h2,h3,h4,h5⟩:=ht a r hr ro _ [] H nx h.hk (λ_ h=>by cases h) A hA vs hargs;exact⟨v,E,N,H',nx',F',h1,h2,h3,h4,h5⟩
  | true=>
    obtain⟨v,E,N,H',nx',F',h1,h2,h3,h4,h5⟩:=ht a r hr nx _ [] H nx h.hk.quiet (λ_ h=>by cases h) A (λx hx=>(hA x hx).imp (λh=>h.quiet) id) vs hargs;refine⟨v,E,N,H',nx',F',h1,?_,h3,h4,h5⟩;have:=h.hk.unquiet (N:=E++N) (by rw[cD];exact h2);rw[cD] at this;exact this
 have after:∀(S:St) (F:aQ) (M R:List Ent) (F2:aQ),ConX B ro e c S tm H nx ν F M R->∀(E N:List Ent) H' nx',HK B ro (E++(N++(M++(c.Mc++(R++c.O0))))) H' nx'->(∀x∈F2,Has (N++(R++c.OF)) x.1 x.2\/iW B x)->
  ConX B ro e (c.park E) S tm H' nx' ν (F2++F) M (N++R):=λS F M R F2 h=>Yr S F M R F2 [] h
 unfold Pu at hs;cases hns:t.outs.all Rep.noSl with
 | true=>
   rw[hns] at hs;split at hs<;>try (cases hs;done)
   rename_i a ha;obtain⟨y,hy,hs⟩:=dN.1 hs;split at hs<;>try (cases hs;done)
   rename_i rs S1 hi;have ho:zF ν (Ih F c M) (look e S):=λb t L cap hl=>by
    obtain⟨k1,k2⟩:=h.ownR b t L cap hl;exact⟨Pf (λ_ h=>h) (λ_ _=>lB (gY (λx hx=>aZ.2 (.inl hx)) t)) k1,k2⟩
   have hargs:=Yi ho h.selfR ha (jT (λx hx=>aZ.2 (.inl hx)) _ _ hv);have hA:∀x∈Ih F c M,Has (M++(c.Mc++(R++c.O0))) x.1 x.2\/iW B x:=λx hx=>by
    rcases aZ.1 hx with hx | hx
    ·rcases h.fz x hx with h1 | h1
     ·obtain⟨w,hm⟩:=h1.mem;left;exact Has.of_mem (w:=w) (by
       simp only[Cnv.O0];rcases aZ.1 hm with h2 | h2<;>simp[h2])
     ·exact .inr h1
    ·left;obtain⟨z,hz,rfl⟩:=bU.1 hx;exact Has.of_mem (w:=z.w) (by rcases aZ.1 hz with h2 | h2<;>simp[h2])
   obtain⟨v,E,N,H',nx',F',k1,k2,k3,k4,vs',rfl,k5⟩:=base S F M R _ h a y hy hA hargs;have hC:=after S F M R [] h E N H' nx' k2 (λx hx=>by cases hx);obtain⟨ν',M',j1,j2⟩:=jan hC ⟨vs',rfl,jf6 hns k5⟩ k3 hi;exact⟨_,H',nx',_,S1,ν',_,M',_,k1,j1,j2,hs⟩
 | false=>
   rw[hns,Vl] at hs;simp only[aF] at hs;split at hs<;>try (cases hs;done)
   rename_i mv ss' hf;split at hs<;>try (cases hs;done)
   rename_i a ha;obtain⟨y,hy,hs⟩:=dN.1 hs;split at hs<;>try (cases hs;done)
   rename_i rs S1 hi;obtain⟨F1,M1,R1,q1,q2,q3⟩:=Jt h ss hf;have hargs:=Yi (F:=F1) qB (λb f _ h=>by cases h) ha (q3 vs hv);have hA:∀x∈F1,Has (M1++(c.Mc++(R1++c.O0))) x.1 x.2\/iW B x:=λx hx=>by
    rcases q1.fz x hx with h1 | h1
    ·obtain⟨w,hm⟩:=h1.mem;left;exact Has.of_mem (w:=w) (by
      simp only[Cnv.O0];rcases aZ.1 hm with h2 | h2<;>simp[h2])
    ·exact .inr h1
   obtain⟨v,E,N,H',nx',F',k1,k2,k3,k4,k5⟩:=base { S with mv:=mv } F1 M1 R1 F1 q1 a y hy hA hargs;have hC:=after { S with mv:=mv } F1 M1 R1 F' q1 E N H' nx' k2 (λx hx=>by
    rcases k4 x hx with h1 | h1 | h1
    ·exact .inl (Has.append_left h1)
    ·exact(q1.fz x h1).imp (λh=>Has.append_right h) id
    ·exact .inr h1)
   obtain⟨vs',rfl,k5⟩:=k5;obtain⟨ν',M',j1,j2⟩:=jan hC ⟨vs',rfl,Pc (λx hx=>aZ.2 (.inl hx)) k5⟩ k3 hi;exact⟨_,H',nx',_,S1,ν',_,M',_,k1,j1,j2,hs⟩
def jxb {t:TE} (ht:t.OK B call) {α:Type} {ss:List SV} {k:SV->St->Option α} {r:α} (hs:Yp t ss e S k=some r) (h:ConX B ro e c S tm H nx ν F M R) {vs:List AV} (hv:bC ν F ss vs):
  ∃v H' nx' s S' ν' F' M' R',call t.f vs H nx ro=some (v,H',nx')/\ConX B ro e c S' tm H' nx' ν' F' M' R'/\aJ ν' F' s v/\k s S'=some r:=by
 unfold Yp at hs;split at hs<;>try (cases hs;done)
 rename_i cc mv a ha;obtain⟨hc,hs⟩:=nA hs;obtain⟨y,hy,hs⟩:=dN.1 hs;split at hs<;>try (cases hs;done)
 rename_i rs S1 hi;obtain⟨E0,F1,M1,R1,q1,q2,q3,q4⟩:=Qj t.ins h ha hc hv;have p0:(M1++(c.Mc++(R1++(c.park E0).O0))).Perm (E0++(M1++(c.Mc++(R1++c.O0)))):=by
  have e1:(c.park E0).O0=E0++c.O0:=by simp[Cnv.O0,Cnv.park]
  rw[e1];have p1:(R1++(E0++c.O0)).Perm (E0++(R1++c.O0)):=fW R1 E0 _;have p2:(c.Mc++(R1++(E0++c.O0))).Perm (E0++(c.Mc++(R1++c.O0))):=(dW c.Mc p1).trans (fW c.Mc E0 _);exact(dW M1 p2).trans (fW M1 E0 _)
 have hk:HK B ro (E0++(M1++(c.Mc++(R1++c.O0)))) H nx:=q1.hk.perm p0.symm;have hA:∀x∈F1,Has (M1++(c.Mc++(R1++c.O0))) x.1 x.2\/iW B x:=λx hx=>by
  rcases q1.fz x hx with h1 | h1
  ·obtain⟨w,hm⟩:=h1.mem;left;exact Has.of_mem (w:=w) (by
    simp only[Cnv.O0];rcases aZ.1 hm with h2 | h2
    ·simp[h2]
    ·have h3:(⟨x.1,w,x.2⟩:Ent)∈c.OF:=h2;simp[h3])
  ·exact .inr h1
 obtain⟨v,E,N,H',nx',F',k1,k2,k3,k4,k5⟩:=ht a y hy ro _ E0 H nx hk q2 F1 hA vs q4;have hC:=Yr { S with mv:=mv } F1 M1 R1 F' E0 q1 E N H' nx' k2 (λx hx=>by
  rcases k4 x hx with h1 | h1 | h1
  ·exact .inl (Has.append_left h1)
  ·exact(q1.fz x h1).imp (λh=>Has.append_right h) id
  ·exact .inr h1)
 obtain⟨vs',rfl,k5⟩:=k5;obtain⟨ν',M',j1,j2⟩:=jan hC ⟨vs',rfl,Pc (λx hx=>aZ.2 (.inl hx)) k5⟩ k3 hi;exact⟨_,H',nx',_,S1,ν',_,M',_,k1,j1,j2,hs⟩
def Wr {T:List TE} (hT:∀t∈T,t.OK B call) {ch:CH} (hch:mY B call ch):mY B call (Hf T ch):=by
 intro α q f ss e S k r hs ro c tm H nx ν F M R h vs hv;unfold Hf at hs;split at hs
 ·rename_i t ht;obtain⟨h1,rfl⟩:=jjp ht;rw[Vl] at hs;cases ho:t.ins.any Rep.owns with
  | false=>
    rw[ho] at hs;simp only[aF,Vl] at hs;cases hn:t.outs.all Rep.noSl with
    | true=>
      rw[hn] at hs;exact jh6 (hT t h1) hs h hv
    | false=>
      rw[hn] at hs;obtain⟨F1,M1,R1,q1,_,q3⟩:=jcp (Kw ss) (ss:=ss) h;exact jh6 (hT t h1) hs q1 (q3 vs hv)
  | true=>
    rw[ho] at hs;obtain⟨hq,hs⟩:=Nb hs;subst hq;exact jxb (hT t h1) hs h hv
 ·exact hch α q f ss e S k r hs ro c tm H nx ν F M R h vs hv
def noC:CH:=λ_ _ _ _ _ _ _=>none
def jms:mY B call noC:=λα q f ss e S k r hs=>by cases hs
def jrf (outs:List Rep) (s:SV):Option (List SV):=bif outs.length.beq 1 then some [s] else match s with
 | .tup l=>some l
 | _=>none
def lP (N:Nat) (ch:CH) (G:bE) (x:Fx) (ins outs:List Rep) (a:eE ins):Option (eE outs):=
 match sG ins a ⟨[],[],[],G,0⟩ ⟨[],[],0⟩ with
 | some (ss,S)=>Cc N ch x ⟨[],[],[],G,0⟩ S.mv S.nc ss λs S=>match jrf outs s with
   | some ss=>match qP outs S.mv ss with
     | some (c,_,y)=>lF c (some y)
     | none=>none
   | none=>none
 | none=>none
def vG:Nm:=λb=>(b-gB,.nils)
def jo8 {ch:CH} (hch:mY B call ch) {G:bE} (hG:GRel B vG G) {x:Fx} {ins outs:List Rep} {f:FuncId} {call':FuncId->List AV->Tr Blk->Nat->Nat->bN} (hcall:∀vs H nx ro,call' f vs H nx ro=tL call ro x.cfn vs H nx):
  TE.OK B call' ⟨f,ins,outs,lP fuel ch G x ins outs⟩:=by
 classical
 intro a r hr ro O E0 H nx hk hw0 A hA vs hargs;simp only[lP] at hr;split at hr<;>try (cases hr;done)
 rename_i ss S1 hi;have h0:ConX B ro ⟨[],[],[],G,0⟩ (Cnv.park ⟨[],[],O.filter (λx=> !decide ((x.b,x.c)∈A)),O.filter (λx=>decide ((x.b,x.c)∈A))⟩ E0) ⟨[],[],0⟩ .e H nx vG A [] []:=by
  refine⟨hk.perm ?_,λn s hn=>(by cases hn),rfl,rfl,λx hx=>(by cases hx),rfl,λy hy=>?_,hG⟩
  ·show((E0++O.filter _)++O.filter _).Perm (E0++O);rw[cD];exact dW E0 (List.perm_append_comm.trans (qgq _ O))
  ·rcases hA y hy with h1 | h1
   ·obtain⟨w,hm⟩:=h1.mem;exact .inl (Has.of_mem (w:=w) (oN.2 ⟨hm,by simpa using hy⟩))
   ·exact .inr h1
 obtain⟨ν1,M1,h1,h2,_,hfr,_⟩:=Jy ins h0 hargs hw0 hi;have h1':ConX B ro ⟨[],[],[],G,0⟩ ⟨[],[],O.filter (λx=> !decide ((x.b,x.c)∈A)),O.filter (λx=>decide ((x.b,x.c)∈A))⟩ ⟨[],S1.mv,S1.nc⟩ .e H nx ν1 A M1 []:=by
  have:S1=⟨[],S1.mv,S1.nc⟩:=by cases S1;simp only at hfr;subst hfr;rfl
  rw[<-this];exact h1
 obtain⟨v,H',nx',s,S2,tm',ν',F',M',R',k1,k2,k3,k4⟩:=jd1 hch hr rfl h1' h2;split at k4<;>try (cases k4;done)
 rename_i rs hrs;split at k4<;>try (cases k4;done)
 rename_i cc mv y hex;obtain⟨hc,k4⟩:=nA k4;cases k4;obtain⟨vs',hv',hsv⟩:∃vs',v=W.pack vs'/\bC ν' F' rs vs':=by
  unfold jrf at hrs;cases hl:outs.length.beq 1 with
  | true=>
    rw[hl] at hrs;cases hrs;exact⟨[v],rfl,v,[],rfl,k3,rfl⟩
  | false=>
    rw[hl] at hrs;simp only[aF] at hrs;split at hrs<;>cases hrs
    obtain⟨m,rfl,hm⟩:=k3;have lens:∀(l:List Rep) (mv:bE) (ss:List SV) (z:Option Bool×bE×eE l),qP l mv ss=some z->ss.length=l.length:=by
     intro l;induction l with
     | nil=>intro mv ss z h;simp only[qP] at h;split at h<;>cases h;rfl
     | cons a l ih=>
       intro mv ss z h;cases l with
       | nil=>
         simp only[qP] at h;split at h
         ·rfl
         ·cases h
       | cons b l=>
         simp only[qP] at h;split at h<;>try (cases h;done)
         split at h<;>try (cases h;done)
         split at h<;>try (cases h;done)
         rename_i h2;have:=ih _ _ _ h2;simp only[dG] at this ⊢;omega
    have hlen:=lens _ _ _ _ hex;refine⟨m,?_,hm⟩;rw[aL,eH,<-hlen,jL hm] at hl
    match m,hl with
    | a::b::m,_=>rfl
    | [a],hml=>simp at hml
    | [],_=>rfl
 obtain⟨E,F2,M2,R2,j1,j2,j3,j4⟩:=Qj outs k2 hex hc hsv;refine⟨v,E,M2++R2,H',nx',F2,by rw[hcall];exact k1,j1.hk.perm ?_,j2,λz hz=>?_,vs',hv',j4⟩
 ·simp only[Cnv.Mc,Cnv.O0,Cnv.park,qgv,dZ,cD];have p1:O.Perm (O.filter (λx=> !decide ((x.b,x.c)∈A))++O.filter (λx=>decide ((x.b,x.c)∈A))):=(List.perm_append_comm.trans (qgq _ O)).symm;refine(dW E (dW M2 (dW R2 p1))).trans ?_;have p2:=fW M2 E (R2++(O.filter (λx=> !decide ((x.b,x.c)∈A))++O.filter (λx=>decide ((x.b,x.c)∈A))));refine p2.symm.trans (dW M2 ?_);exact(fW R2 E _).symm
 ·rcases j1.fz z hz with h3 | h3
  ·obtain⟨w,hm⟩:=h3.mem;rcases aZ.1 hm with h4 | h4
   ·exact .inl (Has.of_mem (w:=w) (aZ.2 (.inr h4)))
   ·exact .inr (.inl (by simpa using (oN.1 h4).2))
  ·exact .inr (.inr h3)
end X
end Go.Vm
namespace Go.Vm
namespace X
open W
def Je:CC->Nat
 | .seq a b | .cond _ a b=>Nat.succ (Nat.add (Je a) (Je b))
 | .block _ b | .loop b | .rangeF _ _ _ _ b=>Nat.succ (Je b)
 | _=>1
inductive An where
 | l (sl:List (Pl×Rep))
 | j (mb:List Pl) (sl:List (Pl×Rep))
 | f (it:ITE) (sl:List (Pl×Rep))
def Ik (i:Nat):List (Nat×An)->Option An
 | []=>none
 | (k,a)::r=>bif Nat.beq k i then some a else Ik i r
def anJ (o:Option An) (c:AC):AC:=match o with
 | some (.j mb sl)=>.join mb sl c
 | _=>c
def anL:Option An->List (Pl×Rep)
 | some (.l sl)=>sl
 | _=>[]
def xT (hs:List (Nat×An)):CC->Nat->AC
 | .skip,_=>.skip
 | .region ops,i=>anJ (Ik i hs) (.region ops)
 | .seq a b,i=>.seq (xT hs a (Nat.succ i)) (xT hs b (Nat.succ (Nat.add i (Je a))))
 | .cond c a b,i=>anJ (Ik i hs) (.cond c (xT hs a (Nat.succ i)) (xT hs b (Nat.succ (Nat.add i (Je a)))))
 | .block id b,i=>.block id (xT hs b (Nat.succ i))
 | .loop b,i=>.loop (anL (Ik i hs)) (xT hs b (Nat.succ i))
 | .rangeF x _ ps as b,i=>match Ik i hs with
   | some (.f it sl)=>.rangeF x it (ps.headD 0) as sl (xT hs b (Nat.succ i))
   | _=>.bad
 | .exit id,_=>.exit id
 | .ret,_=>.ret
 | .bad,_=>.bad
def dC (c:CFn) (hs:List (Nat×An)) (h:Hint):Fx:=⟨c.nt,c.res,xT hs c.body 0,h⟩
variable {B:Base} {memo:dX} {prog:Tr CFn}
def Jo:List (FuncId×Fx)->FuncId->Option Fx
 | [],_=>none
 | x::r,f=>bif Nat.beq x.1 f then some x.2 else Jo r f
def jad:∀ {C:List (FuncId×Fx)} {f:FuncId} {x:Fx},Jo C f=some x->(f,x)∈C
 | [],f,t,h=>by cases h
 | t'::r,f,t,h=>by
   simp only[Jo] at h;cases hb:Nat.beq t'.1 f<;>rw[hb] at h<;>simp only[aB,aF] at h
   ·exact bX _ (jad h)
   ·cases h;rw[aL,aH] at hb;subst hb;exact bY ..
def hnd (N:Nat) (T:List TE) (C:List (FuncId×Fx)):Nat->CH
 | 0=>Hf T noC
 | d+1=>Hf T (Rb N (Jo C) (hnd N T C d))
def rP (memo:dX) (prog:Tr CFn) (C:List (FuncId×Fx)):Prop:=∀x∈C,(∀vs,memo x.1 vs=none)/\prog.get x.1=some x.2.cfn
def cE (B:Base) (memo:dX) (prog:Tr CFn) (m:Nat) (T:List TE):Prop:=∀t∈T,∀n,m<=n->t.OK B (iH B memo prog n)
def jke {T:List TE} {C:List (FuncId×Fx)} {m:Nat} (hT:cE B memo prog m T) (hC:rP memo prog C):∀d n,m+d<=n->mY B (iH B memo prog n) (hnd fuel T C d)
 | 0,n,h=>Wr (λt ht=>hT t ht n (by omega)) jms
 | d+1,n+1,h=>Wr (λt ht=>hT t ht _ (by omega)) (jkt (jke hT hC d n (by omega)) λf x hx vs H nx ro=>by
    obtain⟨h1,h2⟩:=hC _ (jad hx);simp only[iH,h1 vs,h2])
def fQ {T:List TE} {C:List (FuncId×Fx)} {m d:Nat} (hT:cE B memo prog m T) (hC:rP memo prog C) {G:bE} (hG:GRel B vG G) {f:FuncId} {x:Fx} (hx:(∀vs,memo f vs=none)/\prog.get f=some x.cfn) {ins outs:List Rep}
  {run:eE ins->Option (eE outs)} (hr:∀a,lP fuel (hnd fuel T C d) G x ins outs a=run a):cE B memo prog (m+d+1) [⟨f,ins,outs,run⟩]:=by
 intro t ht n hn;rw[bF.1 ht]
 match n,hn with
 | n+1,hn=>
   have h1:=jo8 (jke hT hC d n (by omega)) hG (x:=x) (ins:=ins) (outs:=outs) (f:=f) (call':=iH B memo prog (n+1)) (λvs H nx ro=>by simp only[iH,hx.1 vs,hx.2]);have e:run=lP fuel (hnd fuel T C d) G x ins outs:=funext λa=>(hr a).symm
   rw[e];exact h1
def bH {m:Nat}:cE B memo prog m []:=λt ht=>by cases ht
def wO {m m':Nat} {T:List TE} (h:cE B memo prog m T) (hm:m<=m'):cE B memo prog m' T:=λt ht n hn=>h t ht n (by omega)
def Pa {F:aQ}:∀(r:Rep),r.owns=false->∀(x:r.den) (l:List AV) (E:List Ent),oW F r x l E->E=[]
 | .d t,_,x,l,E,⟨_,_,h⟩=>h
 | .own t,h,x,l,E,_=>by cases h
 | .ownc t,h,x,l,E,_=>by cases h
 | .ownx t,h,x,l,E,_=>by cases h
 | .aw t,h,x,l,E,_=>by cases h
 | .mp k v,h,x,l,E,_=>by cases h
 | .p a b,h,x,l,E,⟨l1,l2,E1,E2,e1,e2,h1,h2⟩=>by
   simp only[Rep.owns,nK] at h;rw[e2,Pa a h.1 _ _ _ h1,Pa b h.2 _ _ _ h2];rfl
 | .u,_,x,l,E,h=>h.2
 | .err,_,x,l,E,⟨_,_,_,h⟩=>h
 | .fn f,_,x,l,E,h=>h.2
 | .nl,_,x,l,E,h=>h.2
 | .dn t,_,x,l,E,⟨_,_,_,_,h⟩=>h
 | .dx t,_,x,l,E,⟨_,_,_,_,h⟩=>h
 | .sf f,_,x,l,E,h=>h.2
def jf5 {F:aQ} {r:Rep} (h:r.owns=false) {x:r.den} {v:AV} {E:List Ent} (hr:gC F r x v E):E=[]:=by
 unfold gC at hr;cases ha:r.agg with
 | true=>
   rw[ha] at hr;obtain⟨m,_,hr⟩:=hr;exact Pa r h _ _ _ hr
 | false=>
   rw[ha] at hr;exact Pa r h _ _ _ hr
def jf7 {F:aQ}:∀ {l:List Rep},l.any Rep.owns=false->∀ {x:eE l} {vs:List AV} {E:List Ent},lT F l x vs E->E=[]
 | [],_,x,vs,E,h=>h.2
 | [r],hr,x,vs,E,⟨v,e1,h⟩=>by
   simp only[Ud,List.any_nil,Bn] at hr;exact jf5 hr h
 | r::r'::l,hr,x,vs,E,⟨v,vs',E1,E2,e1,e2,h1,h2⟩=>by
   simp only[Ud,nK] at hr;rw[e2,jf5 hr.1 h1,jf7 (l:=r'::l) (by simp[Ud,hr.2.1,hr.2.2]) h2];rfl
def Ep {σ β:Type} {step:(σ->Option β)->σ->Option β} (Inv:σ->Prop) (m:σ->Nat) (R:σ->Option β) (h:∀s rec,Inv s->(∀s',Inv s'->m s'<m s->rec s'=R s')->step rec s=R s):∀n s,Inv s->m s<n->cN step n s=R s
 | 0,s,_,hm=>absurd hm (Tk _)
 | n+1,s,hi,hm=>h s _ hi λs' h1 h2=>Ep Inv m R h n s' h1 (by omega)
end X
end Go.Vm
