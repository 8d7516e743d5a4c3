/- The extraction: functions, and calls of functions of which only the code is given. -/
import Derived.Test.YtccefhabickfiaaGreatDoorXG5
set_option linter.unusedSimpArgs false
set_option linter.unusedVariables false
namespace Go.Vm
namespace X
open W
variable {B:Base} {call:FuncId->List AV->Tr Blk->Nat->Nat->dR} {ro:Nat} {e:Env} {c:Cnv} {S:St} {tm:Tr AV} {H:Tr Blk} {nx:Nat} {ν:Nm} {F:bR} {M R:List Ent}
def jbs:Nat->List SV->mD
 | _,[]=>[]
 | n,a::l=>(n,a)::jbs (n+1) l
theorem j1a:∀(ss:List SV) (i n:Nat),fD (jbs i ss) n=if n<i then none else ss[n-i]?
 | [],i,n=>by simp[jbs,fD]
 | a::as,i,n=>by
   simp only[jbs,fD,bE];by_cases h:i=n
   ·subst h;simp
   ·simp only[h,bA,aG];rw[j1a as (i+1) n];by_cases h2:n<i
    ·rw[aH (by omega),aH h2]
    ·rw[aC (by omega),aC h2,show n-i=n-(i+1)+1 by omega];rfl
theorem kdo {ss:List SV} {vs:List AV} (h:cS ν F ss vs) {n:Nat} {s:SV} (hn:fD (jbs 0 ss) n=some s):bD ν F s (bV (put vs 0 .e) (.t n)):=by
 rw[j1a] at hn;simp only[qhv,dO,rC] at hn;obtain⟨v,h1,h2⟩:=T4 h hn;obtain⟨h3,h4⟩:=nC.1 h1;have:bV (put vs 0 .e) (.t n)=v:=by simp[bV,sM,h3,h4]
 rw[this];exact h2
def jut (e:Env) (S:St):CRes->Option SV
 | .t n=>fD (S.fr++e.ct) n
 | .cell a agg size=>match fD (S.fr++e.ct) a with
   | some p=>ldS (look e S) agg size p
   | none=>none
def ji9 (e:Env) (S:St):List CRes->Option (List SV)
 | []=>some []
 | r::l=>match jut e S r,ji9 e S l with
   | some s,some ss=>some (s::ss)
   | _,_=>none
def X3:List SV->SV
 | [s]=>s
 | ss=>.tup ss
theorem kmh (h:ConX B ro e c S tm H nx ν F M R) {r:CRes} {s:SV} (hs:jut e S r=some s):∃v,jfk tm H r=some v/\bD ν F s v:=by
 cases r with
 | t n=>exact⟨_,rfl,h.fr n s hs⟩
 | cell a agg size=>
   simp only[jut] at hs;split at hs<;>try (cases hs;done)
   rename_i p hp;obtain⟨b,o,l,u,h1,h2,h3,h4⟩:=j04 h hs (h.fr a p hp);obtain⟨tc,k1,k2⟩:=h2;obtain⟨k3,k4⟩:=j05 h3;have hg:tm.get a=some (.ptr b o):=by
    simp only[bV] at h1;cases hq:tm.get a with
    | none=>rw[hq] at h1;cases h1
    | some x=>rw[hq] at h1;simp only[pK] at h1;rw[h1]
   refine⟨u,?_,h4⟩;simp only[jfk,hg,k1,bB,k3,aZ,aF,take_at (H:=H) (b:=b) k2 size o k3,k4]
theorem j3n (h:ConX B ro e c S tm H nx ν F M R):∀ {rs:List CRes} {ss:List SV},ji9 e S rs=some ss->∃vs,A2 tm H rs=some vs/\cS ν F ss vs
 | [],ss,hs=>by cases hs;exact⟨[],rfl,rfl⟩
 | r::l,ss,hs=>by
   simp only[ji9] at hs;split at hs<;>cases hs
   rename_i s ss h1 h2;obtain⟨v,k1,k2⟩:=kmh h h1;obtain⟨vs,k3,k4⟩:=j3n h h2;exact⟨v::vs,by simp only[A2,k1,k3],v,vs,rfl,k2,k4⟩
theorem jue {ss:List SV} {vs:List AV} (h:cS ν F ss vs):bD ν F (X3 ss) (W.pack vs):=by
 match ss,h with
 | [],h=>simp only[cS] at h;subst h;exact⟨[],rfl,rfl⟩
 | [s],⟨v,_,e,h1,e2⟩=>simp only[cS] at e2;subst e2;subst e;exact h1
 | s::s'::l,⟨v,m,e,h1,h2⟩=>
   obtain⟨v',m',e',h3,h4⟩:=h2;subst e';subst e;exact⟨_,rfl,v,_,rfl,h1,v',m',rfl,h3,h4⟩
structure Fx where
 nt:Nat
 res:List CRes
 body:AC
 hint:Hint
def Fx.cfn (x:Fx):CFn:=⟨x.nt,x.res,x.body.cc⟩
def jc4 {α:Type} (N:Nat) (ch:CH) (x:Fx) (e:Env) (mv:cV) (nc:Nat) (ss:List SV) (k:SV->St->Option α):Option α:=
 sw (ss.length.ble x.nt) (sx N ch x.hint x.body { e with b0:=nc } ⟨jbs 0 ss,mv,nc⟩ λex S'=>match ex with
  | .exit _=>none
  | _=>match ji9 e S' x.res with
    | some rs=>k (X3 rs) S'
    | none=>none) none
theorem jvi {ch:CH} (hch:tJ B call ch) {α:Type} {x:Fx} {mv:cV} {nc:Nat} {ss:List SV} {k:SV->St->Option α} {r:α} (hs:jc4 fuel ch x e mv nc ss k=some r) (hct:e.ct=[])
  (h:ConX B ro e c ⟨[],mv,nc⟩ tm H nx ν F M R) {vs:List AV} (hv:cS ν F ss vs):
  ∃v H' nx' s S' tm' ν' F' M' R',D8 call ro x.cfn vs H nx=some (v,H',nx')/\ConX B ro e c S' tm' H' nx' ν' F' M' R'/\bD ν' F' s v/\k s S'=some r:=by
 unfold jc4 at hs;obtain⟨hlen,hs⟩:=vJ hs;have h0:sI B ro { e with b0:=nc } c ⟨jbs 0 ss,mv,nc⟩ (put vs 0 .e) H nx:=by
  refine⟨ν,F,M,R,h.hk,λn s hn=>?_,h.ov,h.mv,h.wr,h.mc,h.fz,h.gl⟩;rw[hct,jW] at hn;exact kdo hv hn
 obtain⟨ex,tm',H',nx',h1,h2⟩:=B8 hch x.body (Post:=λex tm H nx=>(∀i,ex≠ .exit i)/\∃s S' vs' ν' F' M' R',A2 tm H x.res=some vs'/\ConX B ro e c S' tm H nx ν' F' M' R'/\bD ν' F' s (W.pack vs')/\k s S'=some r) hs (λex S' hS' tm H nx hC=>by
  obtain⟨ν',F',M',R',hC⟩:=hC;have hC:ConX B ro e c S' tm H nx ν' F' M' R':=⟨hC.hk,hC.fr,hC.ov,hC.mv,hC.wr,hC.mc,hC.fz,hC.gl⟩
  have fin:(match ji9 e S' x.res with
   | some rs=>k (X3 rs) S'
   | none=>none)=some r->∃s S' vs' ν' F' M' R',A2 tm H x.res=some vs'/\ConX B ro e c S' tm H nx ν' F' M' R'/\bD ν' F' s (W.pack vs')/\k s S'=some r:=by
   intro hS';split at hS'<;>try (cases hS';done)
   rename_i rs hrs;obtain⟨vs',k1,k2⟩:=j3n hC hrs;exact⟨_,S',vs',ν',F',M',R',k1,hC,jue k2,hS'⟩
  cases ex with
  | exit i=>cases hS'
  | normal=>exact⟨λi h=>(by cases h),fin hS'⟩
  | ret=>exact⟨λi h=>(by cases h),fin hS'⟩) _ _ _ h0
 obtain⟨hne,s,S',vs',ν',F',M',R',k1,k2,k3,k4⟩:=h2;refine⟨W.pack vs',H',nx',s,S',tm',ν',F',M',R',?_,k2,k3,k4⟩;have e1:(match A2 tm' H' x.res with | some [v]=>some (v,H',nx') | some vs=>some (.tup vs,H',nx') | none=>(none:dR))=some (W.pack vs',H',nx'):=by
  rw[k1];rcases vs' with _ | ⟨v,_ | ⟨w,l⟩⟩<;>rfl
 have hlen':(vs.length.ble x.cfn.nt)=true:=by rw[<-oV hv];exact hlen
 unfold D8;rw[hlen',oY];simp only[aF];have h1':exec call ro x.cfn.body (put vs 0 .e,H,nx)=some (ex,tm',H',nx'):=h1;rw[h1'];cases ex with
 | normal=>exact e1
 | ret=>exact e1
 | exit i=>exact absurd rfl (hne i)
theorem j8y {b:Nat} {sb:SB} {E:List Ent} (h:iH ν F b sb (E.map jA)):iH ν F b sb E:=by
 have one:∀ {w:Bool} {bl:Nat} {cc:HB},E.map jA=[⟨bl,w,cc⟩]->∃w',E=[⟨bl,w',cc⟩]:=by
  intro w bl cc h
  match E,h with
  | [x],h=>
    simp only[dE,lD,jA,pO,Ent.mk.injEq,rD] at h;obtain⟨h1,_,h2⟩:=h;exact⟨x.w,by cases x;simp only at h1 h2;subst h1;subst h2;rfl⟩
  | [],h=>cases h
  | _::_::_,h=>cases h
 cases sb with
 | lit l=>obtain⟨w,m,e1,h⟩:=h;obtain⟨w',e2⟩:=one e1;exact⟨w',m,e2,h⟩
 | fix t n L=>obtain⟨w,m,e1,h⟩:=h;obtain⟨w',e2⟩:=one e1;exact⟨w',m,e2,h⟩
 | mp k v L=>obtain⟨w,m,e1,h⟩:=h;obtain⟨w',e2⟩:=one e1;exact⟨w',m,e2,h⟩
 | arr t L cap=>
   obtain⟨h0,h⟩:=h;refine⟨h0,h.imp (fun⟨a,b⟩=>⟨a,qf3.1 b⟩) fun⟨w,m,e1,h⟩=>?_⟩;obtain⟨w',e2⟩:=one e1;exact⟨w',m,e2,h⟩
theorem jwq:∀ {m:cV} {Ms:List (List Ent)},nA ν F m (Ms.map (List.map jA))->nA ν F m Ms
 | [],Ms,h=>by simpa[nA] using h
 | (b,sb)::m,Ms,⟨E,Ms',e1,h1,h2⟩=>by
   match Ms,e1 with
   | E0::Ms,e1=>
     simp only[dE,pO] at e1;obtain⟨rfl,rfl⟩:=e1;exact⟨E0,Ms,rfl,j8y h1,jwq h2⟩
theorem j8v {b:Nat} {sb:SB} {E:List Ent} (h:iH ν F b sb E):iH ν F b sb (E.map jA):=by
 cases sb with
 | lit l=>obtain⟨w,m,e1,h⟩:=h;exact⟨false,m,by rw[e1];rfl,h⟩
 | fix t n L=>obtain⟨w,m,e1,h⟩:=h;exact⟨false,m,by rw[e1];rfl,h⟩
 | mp k v L=>obtain⟨w,m,e1,h⟩:=h;exact⟨false,m,by rw[e1];rfl,h⟩
 | arr t L cap=>
   obtain⟨h0,h⟩:=h;exact⟨h0,h.imp (fun⟨a,b⟩=>⟨a,by rw[b];rfl⟩) fun⟨w,m,e1,h⟩=>⟨false,m,by rw[e1];rfl,h⟩⟩
theorem jwp:∀ {m:cV} {Ms:List (List Ent)},nA ν F m Ms->nA ν F m (Ms.map (List.map jA))
 | [],Ms,h=>by simp only[nA] at h;subst h;rfl
 | (b,sb)::m,Ms,⟨E,Ms',e1,h1,h2⟩=>by subst e1;exact⟨_,_,rfl,j8v h1,jwp h2⟩
theorem j89 {O:List Ent} {b:Nat} {x:HB} (h:Has (O.map jA) b x):Has O b x:=by
 obtain⟨w,hm⟩:=h.mem;obtain⟨y,hy,e⟩:=bH.1 hm;simp only[jA,Ent.mk.injEq] at e;obtain⟨rfl,_,rfl⟩:=e;exact Has.of_mem (w:=y.w) hy
def jmj (N:Nat) (code:FuncId->Option Fx) (ch:CH):CH:=λα q f ss e S k=>match code f with
 | none=>none
 | some x=>sw q (jc4 N ch x ⟨[],(dd (S.fr++e.ct)).map Prod.snd++e.ov,S.mv++e.mc,e.G,0⟩ [] S.nc ss λs S'=>k s ⟨S.fr,S'.mv++S.mv,S'.nc⟩)
   (jc4 N ch x ⟨[],(dd (S.fr++e.ct)).map Prod.snd++e.ov,e.mc,e.G,0⟩ S.mv S.nc ss λs S'=>k s ⟨S.fr,S'.mv,S'.nc⟩)
theorem j0q {code:FuncId->Option Fx} {ch:CH} {call':FuncId->List AV->Tr Blk->Nat->Nat->dR} (hch:tJ B call ch) (hcode:∀f x,code f=some x->∀vs H nx ro,call' f vs H nx ro=D8 call ro x.cfn vs H nx):tJ B call' (jmj fuel code ch):=by
 intro α q f ss e S k r hs ro c tm H nx ν F M R h vs hv;unfold jmj at hs;split at hs<;>try (cases hs;done)
 rename_i x hx;have hcall:=hcode f x hx;have hov:cS ν F ((dd (S.fr++e.ct)).map Prod.snd++e.ov) ((dd (S.fr++e.ct)).map (λx=>bV tm (.t x.1))++c.oa):=
  vS (jrc λy hy=>h.fr _ _ (jsb hy)) h.ov
 have back:∀ {ν':Nm} {F':bR},cS ν' F' ((dd (S.fr++e.ct)).map Prod.snd++e.ov) ((dd (S.fr++e.ct)).map (λx=>bV tm (.t x.1))++c.oa)->
   (∀n s,fD (S.fr++e.ct) n=some s->bD ν' F' s (bV tm (.t n)))/\cS ν' F' e.ov c.oa:=by
  intro ν' F' h';obtain⟨k1,k2⟩:=jgg (by simp) h';exact⟨λn s hn=>jrd k1 _ (jsc hn),k2⟩
 cases q with
 | false=>
   have hs:jc4 fuel ch x _ _ _ _ _=some r:=hs;have hC:ConX B ro ⟨[],(dd (S.fr++e.ct)).map Prod.snd++e.ov,e.mc,e.G,0⟩ ⟨(dd (S.fr++e.ct)).map (λx=>bV tm (.t x.1))++c.oa,c.Ml,c.P,R++c.OF⟩ ⟨[],S.mv,S.nc⟩ tm H nx ν F M []:=by
    refine⟨h.hk.perm ?_,λn s hn=>(by cases hn),hov,h.mv,h.wr,h.mc,h.fz,h.gl⟩;simp only[Cnv.Mc,Cnv.O0,eP];exact iN _ (iN _ (kX _ _ _))
   obtain⟨v,H',nx',s,S',tm',ν',F',M',R',h1,h2,h3,h4⟩:=jvi hch hs rfl hC hv;obtain⟨b1,b2⟩:=back h2.ov;refine⟨v,H',nx',s,⟨S.fr,S'.mv,S'.nc⟩,ν',F',M',R'++R,by rw[hcall];exact h1,⟨h2.hk.perm ?_,b1,b2,h2.mv,h2.wr,h2.mc,λy hy=>?_,h2.gl⟩,h3,h4⟩
   ·simp only[Cnv.Mc,Cnv.O0,dL];exact iN _ (iN _ (iN _ (kX _ _ _)))
   ·rw[dL];exact h2.fz y hy
 | true=>
   have hs:jc4 fuel ch x _ _ _ _ _=some r:=hs;obtain⟨Ml,rfl,hMl⟩:=jdu h.mv;have hq:=h.hk.quiet;have hC:ConX B nx ⟨[],(dd (S.fr++e.ct)).map Prod.snd++e.ov,S.mv++e.mc,e.G,0⟩ ⟨(dd (S.fr++e.ct)).map (λx=>bV tm (.t x.1))++c.oa,(Ml++c.Ml).map (List.map jA),c.P.map jA,(R++c.OF).map jA⟩ ⟨[],[],S.nc⟩ tm H nx ν F [] []:=by
    refine⟨hq.perm ?_,λn s hn=>(by cases hn),hov,rfl,λx hx=>(by cases hx),jwp (jdt hMl h.mc),λy hy=>?_,h.gl⟩
    ·simp only[Cnv.Mc,Cnv.O0,eP,eI,zB,dL,<-List.map_flatten];exact iN _ (iN _ (kX _ _ _))
    ·rcases h.fz y hy with h1 | h1
     ·exact .inl (by rw[eP];exact h1.quiet)
     ·exact .inr h1
   obtain⟨v,H',nx',s,S',tm',ν',F',M',R',h1,h2,h3,h4⟩:=jvi hch hs rfl hC hv;obtain⟨b1,b2⟩:=back h2.ov;have hmc:=jwq h2.mc;obtain⟨m1,m2⟩:=jkr (jgb hMl) hmc;have hun:=h.hk.unquiet (N:=M'++R') (h2.hk.perm (by
    simp only[Cnv.Mc,Cnv.O0,eI,zB,dL,<-List.map_flatten];refine iN _ ?_;have p1:=kX (R') (Ml.flatten.map jA++(c.Ml.flatten.map jA)) (R.map jA++(c.P.map jA++c.OF.map jA));have p2:(Ml.flatten.map jA++(c.Ml.flatten.map jA++(R'++(R.map jA++(c.P.map jA++c.OF.map jA))))).Perm (Ml.flatten.map jA++(c.Ml.flatten.map jA++(R'++(c.P.map jA++(R.map jA++c.OF.map jA))))):=
     iN _ (iN _ (iN _ (kX _ _ _)))
    simp only[dL] at p1;exact p1.trans p2))
   refine⟨v,H',nx',s,⟨S.fr,S'.mv++S.mv,S'.nc⟩,ν',F',M'++Ml.flatten,R'++R,by rw[hcall];exact h1,⟨hun.perm ?_,b1,b2,K7 h2.mv (jga m1),λy hy=>?_,m2,λy hy=>?_,h2.gl⟩,h3,h4⟩
   ·simp only[Cnv.Mc,Cnv.O0,dL];refine iN _ ?_;have p1:=kX (R') (Ml.flatten++c.Ml.flatten) (R++(c.P++c.OF));simp only[dL] at p1;exact p1.symm
   ·rcases bO.1 hy with h5 | h5
    ·exact h2.wr y h5
    ·exact h.wr y h5
   ·rcases h2.fz y hy with h5 | h5
    ·left;obtain⟨w,hm⟩:=h5.mem;rcases bO.1 hm with h6 | h6
     ·exact Has.of_mem (w:=w) (by simp[h6])
     ·have:=j89 (Has.of_mem h6);obtain⟨w2,hm2⟩:=this.mem;exact Has.of_mem (w:=w2) (by
       rcases bO.1 hm2 with h7 | h7<;>simp[h7])
    ·exact .inr h5
end X
end Go.Vm
namespace Go.Vm
namespace X
open W
variable {B:Base} {call:FuncId->List AV->Tr Blk->Nat->Nat->dR} {ro:Nat} {e:Env} {c:Cnv} {S:St} {tm:Tr AV} {H:Tr Blk} {nx:Nat} {ν:Nm} {F:bR} {M R:List Ent}
structure TE where
 f:FuncId
 ins:List Rep
 outs:List Rep
 run:iD ins->Option (iD outs)
def K9 (F:bR) (outs:List Rep) (x:iD outs) (v:AV) (E:List Ent):Prop:=∃vs,v=W.pack vs/\rL F outs x vs E
def oD (B:Base) (x:Nat×HB):Prop:=x.1<B.nx0/\x.2.At B.H0 x.1
def TE.OK (B:Base) (call:FuncId->List AV->Tr Blk->Nat->Nat->dR) (t:TE):Prop:=
 ∀a r,t.run a=some r->∀ro O E0 H nx,HK B ro (E0++O) H nx->(∀x∈E0,x.w=true)->∀A:bR,(∀x∈A,Has O x.1 x.2\/oD B x)->∀vs,rL A t.ins a vs E0->
  ∃v E N H' nx' F',call t.f vs H nx ro=some (v,H',nx')/\HK B ro (E++(N++O)) H' nx'/\(∀x∈E,x.w=true)/\(∀x∈F',Has N x.1 x.2\/x∈A\/oD B x)/\K9 F' t.outs r v E
def Ty.noSl:Ty->Bool
 | .sl _ | .slx _=>false
 | .prod a b=>a.noSl&&b.noSl
 | .arr _ t=>t.noSl
 | _=>true
def Rep.noSl:Rep->Bool
 | .d t | .own t | .ownc t | .ownx t=>t.noSl
 | .dn _=>false
 | .sf _=>false
 | .aw t=>t.noSl
 | .mp k v=>k.noSl&&v.noSl
 | .dx _=>false
 | .p a b=>a.noSl&&b.noSl
 | _=>true
theorem jaz {F':bR}:∀(t:Ty),t.noSl=true->∀(x:t.den) (l:List AV),cB F t x l->cB F' t x l
 | .int k,_,x,l,h=>h
 | .bool,_,x,l,h=>h
 | .str,_,x,l,h=>h
 | .unit,_,x,l,h=>h
 | .prod a b,ht,x,l,⟨l1,l2,e,h1,h2⟩=>by
   simp only[Ty.noSl,aT] at ht;exact⟨l1,l2,e,jaz a ht.1 _ _ h1,jaz b ht.2 _ _ h2⟩
 | .arr n t,ht,x,l,⟨h1,h2⟩=>⟨h1,qS (jaz t ht) h2⟩
 | .sl t,ht,x,l,h=>by cases ht
 | .slx t,ht,x,l,h=>by cases ht
theorem jkv {F':bR} {t:Ty} (ht:t.noSl=true) {L:List t.den} {cap:Option Nat} {v:AV} {E:List Ent} (h:wP F t L cap v E):wP F' t L cap v E:=by
 obtain⟨x,h1,h0,h2⟩:=h;exact⟨x,h1,h0,h2.imp id fun⟨w,m,e1,h3,h4,h5⟩=>⟨w,m,e1,h3,qS (jaz t ht) h4,h5⟩⟩
theorem jw1 {F':bR} {t:Ty} (ht:t.noSl=true) {x:t.den} {v:AV} (h:Rel F t x v):Rel F' t x v:=by
 unfold Rel at h ⊢;cases ha:t.agg with
 | true=>rw[ha] at h;obtain⟨l,e,h⟩:=h;exact⟨l,e,jaz t ht _ _ h⟩
 | false=>rw[ha] at h;exact jaz t ht _ _ h
theorem jwu {F':bR} {k v:Ty} (hk:k.noSl=true) (hv:v.noSl=true):∀ {L:List (k.den×v.den)} {m:List (AV×AV)},zN F k v L m->zN F' k v L m
 | [],_,h=>h
 | _::_,_,⟨a,b,m',e,h1,h2,h3⟩=>⟨a,b,m',e,jw1 hk h1,jw1 hv h2,jwu hk hv h3⟩
theorem jk1 {F':bR}:∀(r:Rep),r.noSl=true->∀(x:r.den) (l:List AV) (E:List Ent),wQ F r x l E->wQ F' r x l E
 | .d t,ht,x,l,E,⟨h1,h2,h3⟩=>⟨h1,jaz t ht _ _ h2,h3⟩
 | .own t,ht,x,l,E,⟨v,e1,h⟩=>⟨v,e1,jkv ht h⟩
 | .ownc t,ht,x,l,E,⟨v,e1,h⟩=>⟨v,e1,jkv ht h⟩
 | .ownx t,ht,x,l,E,⟨v,e1,h⟩=>⟨v,e1,jkv ht h⟩
 | .p a b,ht,x,l,E,⟨l1,l2,E1,E2,e1,e2,h1,h2⟩=>by
   simp only[Rep.noSl,aT] at ht;exact⟨l1,l2,E1,E2,e1,e2,jk1 a ht.1 _ _ _ h1,jk1 b ht.2 _ _ _ h2⟩
 | .u,_,x,l,E,h=>h
 | .err,_,x,l,E,h=>h
 | .fn f,_,x,l,E,h=>h
 | .nl,_,x,l,E,h=>h
 | .aw t,ht,x,l,E,⟨v,e1,h⟩=>⟨v,e1,jkv ht h⟩
 | .mp k v,ht,x,l,E,⟨b,m,e1,e2,h⟩=>by
   simp only[Rep.noSl,aT] at ht;exact⟨b,m,e1,e2,jwu ht.1 ht.2 h⟩
 | .dn t,ht,x,l,E,h=>by cases ht
 | .dx t,ht,x,l,E,h=>by cases ht
 | .sf t,ht,x,l,E,h=>by cases ht
theorem jw4 {F':bR} {r:Rep} (hr:r.noSl=true) {x:r.den} {v:AV} {E:List Ent} (h:kZ F r x v E):kZ F' r x v E:=by
 unfold kZ at h ⊢;cases ha:r.agg with
 | true=>
   rw[ha] at h;obtain⟨m,e1,h⟩:=h;exact⟨m,e1,jk1 r hr _ _ _ h⟩
 | false=>
   rw[ha] at h;exact jk1 r hr _ _ _ h
theorem jw6 {F':bR}:∀ {l:List Rep},l.all Rep.noSl=true->∀ {x:iD l} {vs:List AV} {E:List Ent},rL F l x vs E->rL F' l x vs E
 | [],_,x,vs,E,h=>h
 | [r],hr,x,vs,E,⟨v,e1,h⟩=>by
   simp only[I2,List.all_nil,qG] at hr;exact⟨v,e1,jw4 hr h⟩
 | r::r'::l,hr,x,vs,E,⟨v,vs',E1,E2,e1,e2,h1,h2⟩=>by
   simp only[I2,aT] at hr;exact⟨v,vs',E1,E2,e1,e2,jw4 hr.1 h1,jw6 (l:=r'::l) (by simp[I2,hr.2.1,hr.2.2]) h2⟩
theorem jk4 {F':bR} (hF:∀x∈F,x∈F'):∀ {l:List Rep} {x:iD l} {vs:List AV} {E:List Ent},rL F l x vs E->rL F' l x vs E
 | [],x,vs,E,h=>h
 | [r],x,vs,E,⟨v,e1,h⟩=>⟨v,e1,jk3 hF h⟩
 | r::r'::l,x,vs,E,⟨v,vs',E1,E2,e1,e2,h1,h2⟩=>⟨v,vs',E1,E2,e1,e2,jk3 hF h1,jk4 hF h2⟩
def T8 (lm:Nat->Option SB) (r:Rep) (s:SV):Option r.den:=match r with
 | .d t=>bif t.ok then jch lm t s else none
 | .err=>match s with
   | .err b=>some b
   | .nili=>some true
   | _=>none
 | .fn f=>match s with
   | .fn f' [] []=>bif Nat.beq f' f then some () else none
   | _=>none
 | .nl=>match s with
   | .nils=>some ()
   | _=>none
 | .sf f=>match s with
   | .sptr f'=>bif Nat.beq f' f then some () else none
   | .ptr b 0=>match lm b with
     | some (.lit [.fn f' [] [.ptr b' 0]])=>bif Nat.blt b gB&&Nat.beq f' f&&Nat.beq b' b then some () else none
     | _=>none
   | _=>none
 | _=>none
def jrg (ν:Nm) (F:bR) (lm:Nat->Option SB):Prop:=∀b f,b<gB->lm b=some (.lit [.fn f [] [.ptr b 0]])->((ν b).1,HB.cells [.fn (.func f) [] [.ptr (ν b).1 0]])∈F
theorem ConX.selfR (h:ConX B ro e c S tm H nx ν F M R):jrg ν (jgk F c M) (X.look e S):=by
 intro b f hb hl;unfold X.look at hl;split at hl
 ·rename_i y hy;cases hl;obtain⟨M1,E,M2,e1,⟨w,m,rfl,hm⟩,_⟩:=T0 (K7 h.mv h.mcm) hy;obtain⟨v,_,rfl,⟨a',c',rfl,h1,⟨u,_,rfl,h2,rfl⟩⟩,rfl⟩:=hm;simp only[cS] at h1;subst h1;simp only[bD] at h2;subst h2;refine bO.2 (.inr ?_);rw[e1];exact bH.2 ⟨⟨(ν b).1,w,.cells [.fn (.func f) [] [.ptr (ν b).1 0]]⟩,by simp,rfl⟩
 ·have:=(h.gl.2 _ _ hl).1;omega
def ja5 (lm:Nat->Option SB):(l:List Rep)->List SV->Option (iD l)
 | [],ss=>match ss with
   | []=>some ()
   | _=>none
 | [r],ss=>match ss with
   | [s]=>T8 lm r s
   | _=>none
 | r::r'::l,ss=>match ss with
   | s::ss=>match T8 lm r s,ja5 lm (r'::l) ss with
     | some x,some y=>some (x,y)
     | _,_=>none
   | _=>none
theorem jxs {lm:Nat->Option SB} (ho:jay ν F lm) (hsf:jrg ν F lm) {r:Rep} {s:SV} {x:r.den} (h:T8 lm r s=some x) {v:AV} (hv:bD ν F s v):kZ F r x v []:=by
 cases r with
 | d t=>
   simp only[T8] at h;obtain⟨ht,h⟩:=bS h;have:=jiv ho h hv;unfold Rel at this;unfold kZ;simp only[Rep.agg];cases ha:t.agg with
   | true=>
     rw[ha] at this;obtain⟨m,e1,h1⟩:=this;exact⟨m,e1,ht,h1,rfl⟩
   | false=>
     rw[ha] at this;exact⟨ht,this,rfl⟩
 | err=>
   simp only[T8] at h;split at h<;>try (cases h;done)
   ·cases h;exact⟨v,rfl,hv,rfl⟩
   ·cases h;exact⟨v,rfl,.inl ⟨rfl,hv⟩,rfl⟩
 | fn f=>
   simp only[T8] at h;split at h<;>try (cases h;done)
   obtain⟨hf,h⟩:=bS h;rw[bE,aO] at hf;subst hf;obtain⟨a',c',rfl,h1,h2⟩:=hv;simp only[cS] at h1 h2;subst h1;subst h2;exact⟨rfl,rfl⟩
 | nl=>
   simp only[T8] at h;split at h<;>try (cases h;done)
   have hv:v=.nils:=hv;subst hv;exact⟨rfl,rfl⟩
 | sf f=>
   simp only[T8] at h;split at h<;>try (cases h;done)
   ·obtain⟨hf,h⟩:=bS h;rw[bE,aO] at hf;subst hf;obtain⟨b,rfl,hb⟩:=hv;exact⟨⟨b,rfl,hb⟩,rfl⟩
   ·split at h<;>try (cases h;done)
    rename_i b f' b' hl;obtain⟨hf,h⟩:=bS h;simp only[aT,bE,aO,Nat.blt,bB] at hf;obtain⟨⟨h1,rfl⟩,rfl⟩:=hf;have hv:v=.ptr (ν b').1 0:=hv;subst hv;exact⟨⟨_,rfl,hsf b' f' (by omega) hl⟩,rfl⟩
 | _=>cases h
theorem jrs {lm:Nat->Option SB} (ho:jay ν F lm) (hsf:jrg ν F lm):∀ {l:List Rep} {ss:List SV} {x:iD l},ja5 lm l ss=some x->∀ {vs:List AV},cS ν F ss vs->rL F l x vs []
 | [],ss,x,h,vs,hv=>by
   simp only[ja5] at h;split at h<;>cases h
   exact⟨hv,rfl⟩
 | [r],ss,x,h,vs,hv=>by
   simp only[ja5] at h;split at h<;>try (cases h;done)
   obtain⟨v,_,rfl,h1,rfl⟩:=hv;exact⟨v,rfl,jxs ho hsf h h1⟩
 | r::r'::l,ss,x,h,vs,hv=>by
   simp only[ja5] at h;split at h<;>try (cases h;done)
   split at h<;>cases h
   rename_i x y h1 h2;obtain⟨v,m,rfl,v1,v2⟩:=hv;exact⟨v,m,[],[],rfl,rfl,jxs ho hsf h1 v1,jrs ho hsf h2 v2⟩
def jlk {α:Type} (t:TE) (ss:List SV) (e:Env) (S:St) (k:SV->St->Option α):Option α:=
 sw (t.outs.all Rep.noSl) (match ja5 (look e S) t.ins ss with
  | some a=>(t.run a).bind λr=>match n8 t.outs r e S with
    | some (rs,S)=>k (X3 rs) S
    | none=>none
  | none=>none)
 (match U5 S.mv ss with
   | some (mv,ss)=>match ja5 yT t.ins ss with
     | some a=>(t.run a).bind λr=>match n8 t.outs r e { S with mv:=mv } with
       | some (rs,S)=>k (X3 rs) S
       | none=>none
     | none=>none
   | none=>none)
def Rep.owns:Rep->Bool
 | .own _ | .ownc _ | .ownx _ | .aw _ | .mp _ _=>true
 | .p a b=>a.owns||b.owns
 | _=>false
def jrx {α:Type} (t:TE) (ss:List SV) (e:Env) (S:St) (k:SV->St->Option α):Option α:=
 match yK t.ins S.mv ss with
  | some (c,mv,a)=>qU c ((t.run a).bind λr=>match n8 t.outs r e { S with mv:=mv } with
     | some (rs,S)=>k (X3 rs) S
     | none=>none)
  | none=>none
def jl5:List TE->FuncId->Option TE
 | [],_=>none
 | t::r,f=>bif Nat.beq t.f f then some t else jl5 r f
theorem jzv:∀ {T:List TE} {f:FuncId} {t:TE},jl5 T f=some t->t∈T/\t.f=f
 | [],f,t,h=>by cases h
 | t'::r,f,t,h=>by
   simp only[jl5] at h;cases hb:Nat.beq t'.f f<;>rw[hb] at h<;>simp only[aF,aG] at h
   ·obtain⟨h1,h2⟩:=jzv h;exact⟨bN _ h1,h2⟩
   ·cases h;rw[bE,aO] at hb;exact⟨bM ..,hb⟩
def kbu {α:Type} (t:TE) (ss:List SV) (e:Env) (S:St) (k:SV->St->Option α):Option α:=jlk t (jcl (jiu ss) S ss).2 e (jcl (jiu ss) S ss).1 k
def jf3 (T:List TE) (ch:CH):CH:=λα q f ss e S k=>match jl5 T f with
 | some t=>sw (t.ins.any Rep.owns) (sw q none (jrx t ss e S k)) (sw (t.outs.all Rep.noSl) (jlk t ss e S k) (kbu t ss e S k))
 | none=>ch α q f ss e S k
theorem js4 {E:List Ent} {l:List Rep} (h:ConX B ro e (c.park E) S tm H nx ν F M R) {x:iD l} {v:AV} (hr:K9 F l x v E) (hw:∀x∈E,x.w=true) {ss:List SV} {S':St} (hs:n8 l x e S=some (ss,S')):
  ∃ν' M',ConX B ro e c S' tm H nx ν' F M' R/\bD ν' F (X3 ss) v:=by
 obtain⟨vs,rfl,hr⟩:=hr;obtain⟨ν',M',h1,h2,_⟩:=jhm l h hr hw hs;exact⟨ν',M',h1,jue h2⟩
theorem jrz (S:St) (F:bR) (M R:List Ent) (F2:bR) (E0:List Ent) (h:ConX B ro e (c.park E0) S tm H nx ν F M R):∀(E N:List Ent) H' nx',HK B ro (E++(N++(M++(c.Mc++(R++c.O0))))) H' nx'->(∀x∈F2,Has (N++(R++c.OF)) x.1 x.2\/oD B x)->
  ConX B ro e (c.park E) S tm H' nx' ν (F2++F) M (N++R):=by
 intro E N H' nx' hk hF2;have up:∀x∈F,x∈F2++F:=λx hx=>bO.2 (.inr hx)
 refine⟨hk.perm ?_,λn s hn=>vR up _ _ (h.fr n s hn),pC up _ _ h.ov,jau up h.mv,h.wr,jat up h.mc,λx hx=>?_,h.gl⟩
 ·have e1:(c.park E).O0=E++c.O0:=by simp[Cnv.O0,Cnv.park]
  rw[e1];show(M++(c.Mc++((N++R)++(E++c.O0)))).Perm _;rw[dL];have p1:(N++(R++(E++c.O0))).Perm (E++(N++(R++c.O0))):=(iN N (kX R E c.O0)).trans (kX N E _);have p2:(c.Mc++(E++(N++(R++c.O0)))).Perm (E++(N++(c.Mc++(R++c.O0)))):=(kX c.Mc E _).trans (iN E (kX c.Mc N _));have p3:(M++(E++(N++(c.Mc++(R++c.O0))))).Perm (E++(N++(M++(c.Mc++(R++c.O0))))):=(kX M E _).trans (iN E (kX M N _));exact(iN M ((iN c.Mc p1).trans p2)).trans p3
 ·rw[dL];rcases bO.1 hx with hx | hx
  ·exact hF2 x hx
  ·exact(h.fz x hx).imp (λh=>Has.append_right h) id
theorem jys {t:TE} (ht:t.OK B call) {α:Type} {q:Bool} {ss:List SV} {k:SV->St->Option α} {r:α} (hs:jlk t ss e S k=some r) (h:ConX B ro e c S tm H nx ν F M R) {vs:List AV} (hv:cS ν F ss vs):
  ∃v H' nx' s S' ν' F' M' R',call t.f vs H nx (bif q then nx else ro)=some (v,H',nx')/\ConX B ro e c S' tm H' nx' ν' F' M' R'/\bD ν' F' s v/\k s S'=some r:=by
 have base:∀(S:St) (F:bR) (M R:List Ent) (A:bR),ConX B ro e c S tm H nx ν F M R->∀a r,t.run a=some r->(∀x∈A,Has (M++(c.Mc++(R++c.O0))) x.1 x.2\/oD B x)->rL A t.ins a vs []->
   ∃v E N H' nx' F',call t.f vs H nx (bif q then nx else ro)=some (v,H',nx')/\HK B ro (E++(N++(M++(c.Mc++(R++c.O0))))) H' nx'/\(∀x∈E,x.w=true)/\(∀x∈F',Has N x.1 x.2\/x∈A\/oD B x)/\K9 F' t.outs r v E:=by
  intro S F M R A h a r hr hA hargs;cases q with
  | false=>
    obtain⟨v,E,N,H',nx',F',h1,h2,h3,h4,h5⟩:=ht a r hr ro _ [] H nx h.hk (λ_ h=>by cases h) A hA vs hargs;exact⟨v,E,N,H',nx',F',h1,h2,h3,h4,h5⟩
  | true=>
    obtain⟨v,E,N,H',nx',F',h1,h2,h3,h4,h5⟩:=ht a r hr nx _ [] H nx h.hk.quiet (λ_ h=>by cases h) A (λx hx=>(hA x hx).imp (λh=>h.quiet) id) vs hargs;refine⟨v,E,N,H',nx',F',h1,?_,h3,h4,h5⟩;have:=h.hk.unquiet (N:=E++N) (by rw[dL];exact h2);rw[dL] at this;exact this
 have after:∀(S:St) (F:bR) (M R:List Ent) (F2:bR),ConX B ro e c S tm H nx ν F M R->∀(E N:List Ent) H' nx',HK B ro (E++(N++(M++(c.Mc++(R++c.O0))))) H' nx'->(∀x∈F2,Has (N++(R++c.OF)) x.1 x.2\/oD B x)->
  ConX B ro e (c.park E) S tm H' nx' ν (F2++F) M (N++R):=λS F M R F2 h=>jrz S F M R F2 [] h
 unfold jlk at hs;cases hns:t.outs.all Rep.noSl with
 | true=>
   rw[hns] at hs;split at hs<;>try (cases hs;done)
   rename_i a ha;obtain⟨y,hy,hs⟩:=iA.1 hs;split at hs<;>try (cases hs;done)
   rename_i rs S1 hi;have ho:jay ν (jgk F c M) (look e S):=λb t L cap hl=>by
    obtain⟨k1,k2⟩:=h.ownR b t L cap hl;exact⟨jk6 (λ_ h=>h) (λ_ _=>qS (mM (λx hx=>bO.2 (.inl hx)) t)) k1,k2⟩
   have hargs:=jrs ho h.selfR ha (pC (λx hx=>bO.2 (.inl hx)) _ _ hv);have hA:∀x∈jgk F c M,Has (M++(c.Mc++(R++c.O0))) x.1 x.2\/oD B x:=λx hx=>by
    rcases bO.1 hx with hx | hx
    ·rcases h.fz x hx with h1 | h1
     ·obtain⟨w,hm⟩:=h1.mem;left;exact Has.of_mem (w:=w) (by
       simp only[Cnv.O0];rcases bO.1 hm with h2 | h2<;>simp[h2])
     ·exact .inr h1
    ·left;obtain⟨z,hz,rfl⟩:=bH.1 hx;exact Has.of_mem (w:=z.w) (by rcases bO.1 hz with h2 | h2<;>simp[h2])
   obtain⟨v,E,N,H',nx',F',k1,k2,k3,k4,vs',rfl,k5⟩:=base S F M R _ h a y hy hA hargs;have hC:=after S F M R [] h E N H' nx' k2 (λx hx=>by cases hx);obtain⟨ν',M',j1,j2⟩:=js4 hC ⟨vs',rfl,jw6 hns k5⟩ k3 hi;exact⟨_,H',nx',_,S1,ν',_,M',_,k1,j1,j2,hs⟩
 | false=>
   rw[hns,jpb] at hs;simp only[aG] at hs;split at hs<;>try (cases hs;done)
   rename_i mv ss' hf;split at hs<;>try (cases hs;done)
   rename_i a ha;obtain⟨y,hy,hs⟩:=iA.1 hs;split at hs<;>try (cases hs;done)
   rename_i rs S1 hi;obtain⟨F1,M1,R1,q1,q2,q3⟩:=jhi h ss hf;have hargs:=jrs (F:=F1) xY (λb f _ h=>by cases h) ha (q3 vs hv);have hA:∀x∈F1,Has (M1++(c.Mc++(R1++c.O0))) x.1 x.2\/oD B x:=λx hx=>by
    rcases q1.fz x hx with h1 | h1
    ·obtain⟨w,hm⟩:=h1.mem;left;exact Has.of_mem (w:=w) (by
      simp only[Cnv.O0];rcases bO.1 hm with h2 | h2<;>simp[h2])
    ·exact .inr h1
   obtain⟨v,E,N,H',nx',F',k1,k2,k3,k4,k5⟩:=base { S with mv:=mv } F1 M1 R1 F1 q1 a y hy hA hargs;have hC:=after { S with mv:=mv } F1 M1 R1 F' q1 E N H' nx' k2 (λx hx=>by
    rcases k4 x hx with h1 | h1 | h1
    ·exact .inl (Has.append_left h1)
    ·exact(q1.fz x h1).imp (λh=>Has.append_right h) id
    ·exact .inr h1)
   obtain⟨vs',rfl,k5⟩:=k5;obtain⟨ν',M',j1,j2⟩:=js4 hC ⟨vs',rfl,jk4 (λx hx=>bO.2 (.inl hx)) k5⟩ k3 hi;exact⟨_,H',nx',_,S1,ν',_,M',_,k1,j1,j2,hs⟩
theorem kbx {t:TE} (ht:t.OK B call) {α:Type} {ss:List SV} {k:SV->St->Option α} {r:α} (hs:jrx t ss e S k=some r) (h:ConX B ro e c S tm H nx ν F M R) {vs:List AV} (hv:cS ν F ss vs):
  ∃v H' nx' s S' ν' F' M' R',call t.f vs H nx ro=some (v,H',nx')/\ConX B ro e c S' tm H' nx' ν' F' M' R'/\bD ν' F' s v/\k s S'=some r:=by
 unfold jrx at hs;split at hs<;>try (cases hs;done)
 rename_i cc mv a ha;obtain⟨hc,hs⟩:=tQ hs;obtain⟨y,hy,hs⟩:=iA.1 hs;split at hs<;>try (cases hs;done)
 rename_i rs S1 hi;obtain⟨E0,F1,M1,R1,q1,q2,q3,q4⟩:=jlz t.ins h ha hc hv;have p0:(M1++(c.Mc++(R1++(c.park E0).O0))).Perm (E0++(M1++(c.Mc++(R1++c.O0)))):=by
  have e1:(c.park E0).O0=E0++c.O0:=by simp[Cnv.O0,Cnv.park]
  rw[e1];have p1:(R1++(E0++c.O0)).Perm (E0++(R1++c.O0)):=kX R1 E0 _;have p2:(c.Mc++(R1++(E0++c.O0))).Perm (E0++(c.Mc++(R1++c.O0))):=(iN c.Mc p1).trans (kX c.Mc E0 _);exact(iN M1 p2).trans (kX M1 E0 _)
 have hk:HK B ro (E0++(M1++(c.Mc++(R1++c.O0)))) H nx:=q1.hk.perm p0.symm;have hA:∀x∈F1,Has (M1++(c.Mc++(R1++c.O0))) x.1 x.2\/oD B x:=λx hx=>by
  rcases q1.fz x hx with h1 | h1
  ·obtain⟨w,hm⟩:=h1.mem;left;exact Has.of_mem (w:=w) (by
    simp only[Cnv.O0];rcases bO.1 hm with h2 | h2
    ·simp[h2]
    ·have h3:(⟨x.1,w,x.2⟩:Ent)∈c.OF:=h2;simp[h3])
  ·exact .inr h1
 obtain⟨v,E,N,H',nx',F',k1,k2,k3,k4,k5⟩:=ht a y hy ro _ E0 H nx hk q2 F1 hA vs q4;have hC:=jrz { S with mv:=mv } F1 M1 R1 F' E0 q1 E N H' nx' k2 (λx hx=>by
  rcases k4 x hx with h1 | h1 | h1
  ·exact .inl (Has.append_left h1)
  ·exact(q1.fz x h1).imp (λh=>Has.append_right h) id
  ·exact .inr h1)
 obtain⟨vs',rfl,k5⟩:=k5;obtain⟨ν',M',j1,j2⟩:=js4 hC ⟨vs',rfl,jk4 (λx hx=>bO.2 (.inl hx)) k5⟩ k3 hi;exact⟨_,H',nx',_,S1,ν',_,M',_,k1,j1,j2,hs⟩
theorem jp4 {T:List TE} (hT:∀t∈T,t.OK B call) {ch:CH} (hch:tJ B call ch):tJ B call (jf3 T ch):=by
 intro α q f ss e S k r hs ro c tm H nx ν F M R h vs hv;unfold jf3 at hs;split at hs
 ·rename_i t ht;obtain⟨h1,rfl⟩:=jzv ht;rw[jpb] at hs;cases ho:t.ins.any Rep.owns with
  | false=>
    rw[ho] at hs;simp only[aG,jpb] at hs;cases hn:t.outs.all Rep.noSl with
    | true=>
      rw[hn] at hs;exact jys (hT t h1) hs h hv
    | false=>
      rw[hn] at hs;obtain⟨F1,M1,R1,q1,_,q3⟩:=juj (jiu ss) (ss:=ss) h;exact jys (hT t h1) hs q1 (q3 vs hv)
  | true=>
    rw[ho] at hs;obtain⟨hq,hs⟩:=jjk hs;subst hq;exact kbx (hT t h1) hs h hv
 ·exact hch α q f ss e S k r hs ro c tm H nx ν F M R h vs hv
def noC:CH:=λ_ _ _ _ _ _ _=>none
theorem j1x:tJ B call noC:=λα q f ss e S k r hs=>by cases hs
def j58 (outs:List Rep) (s:SV):Option (List SV):=bif outs.length.beq 1 then some [s] else match s with
 | .tup l=>some l
 | _=>none
def lT (N:Nat) (ch:CH) (G:cV) (x:Fx) (ins outs:List Rep) (a:iD ins):Option (iD outs):=
 match n8 ins a ⟨[],[],[],G,0⟩ ⟨[],[],0⟩ with
 | some (ss,S)=>jc4 N ch x ⟨[],[],[],G,0⟩ S.mv S.nc ss λs S=>match j58 outs s with
   | some ss=>match yK outs S.mv ss with
     | some (c,_,y)=>qU c (some y)
     | none=>none
   | none=>none
 | none=>none
def O2:Nm:=λb=>(b-gB,.nils)
theorem j3v {ch:CH} (hch:tJ B call ch) {G:cV} (hG:GRel B O2 G) {x:Fx} {ins outs:List Rep} {f:FuncId} {call':FuncId->List AV->Tr Blk->Nat->Nat->dR} (hcall:∀vs H nx ro,call' f vs H nx ro=D8 call ro x.cfn vs H nx):
  TE.OK B call' ⟨f,ins,outs,lT fuel ch G x ins outs⟩:=by
 classical
 intro a r hr ro O E0 H nx hk hw0 A hA vs hargs;simp only[lT] at hr;split at hr<;>try (cases hr;done)
 rename_i ss S1 hi;have h0:ConX B ro ⟨[],[],[],G,0⟩ (Cnv.park ⟨[],[],O.filter (λx=> !decide ((x.b,x.c)∈A)),O.filter (λx=>decide ((x.b,x.c)∈A))⟩ E0) ⟨[],[],0⟩ .e H nx O2 A [] []:=by
  refine⟨hk.perm ?_,λn s hn=>(by cases hn),rfl,rfl,λx hx=>(by cases hx),rfl,λy hy=>?_,hG⟩
  ·show((E0++O.filter _)++O.filter _).Perm (E0++O);rw[dL];exact iN E0 (List.perm_append_comm.trans (qih _ O))
  ·rcases hA y hy with h1 | h1
   ·obtain⟨w,hm⟩:=h1.mem;exact .inl (Has.of_mem (w:=w) (kN.2 ⟨hm,by simpa using hy⟩))
   ·exact .inr h1
 obtain⟨ν1,M1,h1,h2,_,hfr,_⟩:=jhm ins h0 hargs hw0 hi;have h1':ConX B ro ⟨[],[],[],G,0⟩ ⟨[],[],O.filter (λx=> !decide ((x.b,x.c)∈A)),O.filter (λx=>decide ((x.b,x.c)∈A))⟩ ⟨[],S1.mv,S1.nc⟩ .e H nx ν1 A M1 []:=by
  have:S1=⟨[],S1.mv,S1.nc⟩:=by cases S1;simp only at hfr;subst hfr;rfl
  rw[<-this];exact h1
 obtain⟨v,H',nx',s,S2,tm',ν',F',M',R',k1,k2,k3,k4⟩:=jvi hch hr rfl h1' h2;split at k4<;>try (cases k4;done)
 rename_i rs hrs;split at k4<;>try (cases k4;done)
 rename_i cc mv y hex;obtain⟨hc,k4⟩:=tQ k4;cases k4;obtain⟨vs',hv',hsv⟩:∃vs',v=W.pack vs'/\cS ν' F' rs vs':=by
  unfold j58 at hrs;cases hl:outs.length.beq 1 with
  | true=>
    rw[hl] at hrs;cases hrs;exact⟨[v],rfl,v,[],rfl,k3,rfl⟩
  | false=>
    rw[hl] at hrs;simp only[aG] at hrs;split at hrs<;>cases hrs
    obtain⟨m,rfl,hm⟩:=k3;have lens:∀(l:List Rep) (mv:cV) (ss:List SV) (z:Option Bool×cV×iD l),yK l mv ss=some z->ss.length=l.length:=by
     intro l;induction l with
     | nil=>intro mv ss z h;simp only[yK] at h;split at h<;>cases h;rfl
     | cons a l ih=>
       intro mv ss z h;cases l with
       | nil=>
         simp only[yK] at h;split at h
         ·rfl
         ·cases h
       | cons b l=>
         simp only[yK] at h;split at h<;>try (cases h;done)
         split at h<;>try (cases h;done)
         split at h<;>try (cases h;done)
         rename_i h2;have:=ih _ _ _ h2;simp only[cM] at this ⊢;omega
    have hlen:=lens _ _ _ _ hex;refine⟨m,?_,hm⟩;rw[bE,iB,<-hlen,oV hm] at hl
    match m,hl with
    | a::b::m,_=>rfl
    | [a],hml=>simp at hml
    | [],_=>rfl
 obtain⟨E,F2,M2,R2,j1,j2,j3,j4⟩:=jlz outs k2 hex hc hsv;refine⟨v,E,M2++R2,H',nx',F2,by rw[hcall];exact k1,j1.hk.perm ?_,j2,λz hz=>?_,vs',hv',j4⟩
 ·simp only[Cnv.Mc,Cnv.O0,Cnv.park,qf9,eP,dL];have p1:O.Perm (O.filter (λx=> !decide ((x.b,x.c)∈A))++O.filter (λx=>decide ((x.b,x.c)∈A))):=(List.perm_append_comm.trans (qih _ O)).symm;refine(iN E (iN M2 (iN R2 p1))).trans ?_;have p2:=kX M2 E (R2++(O.filter (λx=> !decide ((x.b,x.c)∈A))++O.filter (λx=>decide ((x.b,x.c)∈A))));refine p2.symm.trans (iN M2 ?_);exact(kX R2 E _).symm
 ·rcases j1.fz z hz with h3 | h3
  ·obtain⟨w,hm⟩:=h3.mem;rcases bO.1 hm with h4 | h4
   ·exact .inl (Has.of_mem (w:=w) (bO.2 (.inr h4)))
   ·exact .inr (.inl (by simpa using (kN.1 h4).2))
  ·exact .inr (.inr h3)
end X
end Go.Vm
namespace Go.Vm
namespace X
open W
def csz:CC->Nat
 | .seq a b | .cond _ a b=>Nat.succ (Nat.add (csz a) (csz b))
 | .block _ b | .loop b | .rangeF _ _ _ _ b=>Nat.succ (csz b)
 | _=>1
inductive An where
 | l (sl:List (Pl×Rep))
 | j (mb:List Pl) (sl:List (Pl×Rep))
 | f (it:ITE) (sl:List (Pl×Rep))
def jgn (i:Nat):List (Nat×An)->Option An
 | []=>none
 | (k,a)::r=>bif Nat.beq k i then some a else jgn i r
def anJ (o:Option An) (c:AC):AC:=match o with
 | some (.j mb sl)=>.join mb sl c
 | _=>c
def anL:Option An->List (Pl×Rep)
 | some (.l sl)=>sl
 | _=>[]
def V5 (hs:List (Nat×An)):CC->Nat->AC
 | .skip,_=>.skip
 | .region ops,i=>anJ (jgn i hs) (.region ops)
 | .seq a b,i=>.seq (V5 hs a (Nat.succ i)) (V5 hs b (Nat.succ (Nat.add i (csz a))))
 | .cond c a b,i=>anJ (jgn i hs) (.cond c (V5 hs a (Nat.succ i)) (V5 hs b (Nat.succ (Nat.add i (csz a)))))
 | .block id b,i=>.block id (V5 hs b (Nat.succ i))
 | .loop b,i=>.loop (anL (jgn i hs)) (V5 hs b (Nat.succ i))
 | .rangeF x _ ps as b,i=>match jgn i hs with
   | some (.f it sl)=>.rangeF x it (ps.headD 0) as sl (V5 hs b (Nat.succ i))
   | _=>.bad
 | .exit id,_=>.exit id
 | .ret,_=>.ret
 | .bad,_=>.bad
def cX (c:CFn) (hs:List (Nat×An)) (h:Hint):Fx:=⟨c.nt,c.res,V5 hs c.body 0,h⟩
variable {B:Base} {memo:iP} {prog:Tr CFn}
def jhc:List (FuncId×Fx)->FuncId->Option Fx
 | [],_=>none
 | x::r,f=>bif Nat.beq x.1 f then some x.2 else jhc r f
theorem jsv:∀ {C:List (FuncId×Fx)} {f:FuncId} {x:Fx},jhc C f=some x->(f,x)∈C
 | [],f,t,h=>by cases h
 | t'::r,f,t,h=>by
   simp only[jhc] at h;cases hb:Nat.beq t'.1 f<;>rw[hb] at h<;>simp only[aF,aG] at h
   ·exact bN _ (jsv h)
   ·cases h;rw[bE,aO] at hb;subst hb;exact bM ..
def hnd (N:Nat) (T:List TE) (C:List (FuncId×Fx)):Nat->CH
 | 0=>jf3 T noC
 | d+1=>jf3 T (jmj N (jhc C) (hnd N T C d))
def D0 (memo:iP) (prog:Tr CFn) (C:List (FuncId×Fx)):Prop:=∀x∈C,(∀vs,memo x.1 vs=none)/\prog.get x.1=some x.2.cfn
def eG (B:Base) (memo:iP) (prog:Tr CFn) (m:Nat) (T:List TE):Prop:=∀t∈T,∀n,m<=n->t.OK B (nF B memo prog n)
theorem j0d {T:List TE} {C:List (FuncId×Fx)} {m:Nat} (hT:eG B memo prog m T) (hC:D0 memo prog C):∀d n,m+d<=n->tJ B (nF B memo prog n) (hnd fuel T C d)
 | 0,n,h=>jp4 (λt ht=>hT t ht n (by omega)) j1x
 | d+1,n+1,h=>jp4 (λt ht=>hT t ht _ (by omega)) (j0q (j0d hT hC d n (by omega)) λf x hx vs H nx ro=>by
    obtain⟨h1,h2⟩:=hC _ (jsv hx);simp only[nF,h1 vs,h2])
theorem cW {T:List TE} {C:List (FuncId×Fx)} {m d:Nat} (hT:eG B memo prog m T) (hC:D0 memo prog C) {G:cV} (hG:GRel B O2 G) {f:FuncId} {x:Fx} (hx:(∀vs,memo f vs=none)/\prog.get f=some x.cfn) {ins outs:List Rep}
  {run:iD ins->Option (iD outs)} (hr:∀a,lT fuel (hnd fuel T C d) G x ins outs a=run a):eG B memo prog (m+d+1) [⟨f,ins,outs,run⟩]:=by
 intro t ht n hn;rw[bW.1 ht]
 match n,hn with
 | n+1,hn=>
   have h1:=j3v (j0d hT hC d n (by omega)) hG (x:=x) (ins:=ins) (outs:=outs) (f:=f) (call':=nF B memo prog (n+1)) (λvs H nx ro=>by simp only[nF,hx.1 vs,hx.2]);have e:run=lT fuel (hnd fuel T C d) G x ins outs:=funext λa=>(hr a).symm
   rw[e];exact h1
theorem cR {m:Nat}:eG B memo prog m []:=λt ht=>by cases ht
theorem T3 {m m':Nat} {T:List TE} (h:eG B memo prog m T) (hm:m<=m'):eG B memo prog m' T:=λt ht n hn=>h t ht n (by omega)
theorem jk2 {F:bR}:∀(r:Rep),r.owns=false->∀(x:r.den) (l:List AV) (E:List Ent),wQ F r x l E->E=[]
 | .d t,_,x,l,E,⟨_,_,h⟩=>h
 | .own t,h,x,l,E,_=>by cases h
 | .ownc t,h,x,l,E,_=>by cases h
 | .ownx t,h,x,l,E,_=>by cases h
 | .aw t,h,x,l,E,_=>by cases h
 | .mp k v,h,x,l,E,_=>by cases h
 | .p a b,h,x,l,E,⟨l1,l2,E1,E2,e1,e2,h1,h2⟩=>by
   simp only[Rep.owns,uQ] at h;rw[e2,jk2 a h.1 _ _ _ h1,jk2 b h.2 _ _ _ h2];rfl
 | .u,_,x,l,E,h=>h.2
 | .err,_,x,l,E,⟨_,_,_,h⟩=>h
 | .fn f,_,x,l,E,h=>h.2
 | .nl,_,x,l,E,h=>h.2
 | .dn t,_,x,l,E,⟨_,_,_,_,h⟩=>h
 | .dx t,_,x,l,E,⟨_,_,_,_,h⟩=>h
 | .sf f,_,x,l,E,h=>h.2
theorem jw5 {F:bR} {r:Rep} (h:r.owns=false) {x:r.den} {v:AV} {E:List Ent} (hr:kZ F r x v E):E=[]:=by
 unfold kZ at hr;cases ha:r.agg with
 | true=>
   rw[ha] at hr;obtain⟨m,_,hr⟩:=hr;exact jk2 r h _ _ _ hr
 | false=>
   rw[ha] at hr;exact jk2 r h _ _ _ hr
theorem jw7 {F:bR}:∀ {l:List Rep},l.any Rep.owns=false->∀ {x:iD l} {vs:List AV} {E:List Ent},rL F l x vs E->E=[]
 | [],_,x,vs,E,h=>h.2
 | [r],hr,x,vs,E,⟨v,e1,h⟩=>by
   simp only[qig,List.any_nil,qgk] at hr;exact jw5 hr h
 | r::r'::l,hr,x,vs,E,⟨v,vs',E1,E2,e1,e2,h1,h2⟩=>by
   simp only[qig,uQ] at hr;rw[e2,jw5 hr.1 h1,jw7 (l:=r'::l) (by simp[qig,hr.2.1,hr.2.2]) h2];rfl
theorem rU {σ β:Type} {step:(σ->Option β)->σ->Option β} (Inv:σ->Prop) (m:σ->Nat) (R:σ->Option β) (h:∀s rec,Inv s->(∀s',Inv s'->m s'<m s->rec s'=R s')->step rec s=R s):∀n s,Inv s->m s<n->dF step n s=R s
 | 0,s,_,hm=>absurd hm (qhv _)
 | n+1,s,hi,hm=>h s _ hi λs' h1 h2=>rU Inv m R h n s' h1 (by omega)
end X
end Go.Vm
