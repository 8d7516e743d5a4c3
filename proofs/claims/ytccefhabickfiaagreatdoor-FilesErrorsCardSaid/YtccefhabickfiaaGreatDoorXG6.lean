/-
  The extraction: functions, and calls of functions of which only the code is given.
  The extraction: what is told of functions; a function's plain function tells what the machine does.
  The extraction: annotated code out of the compiler's code and a list of annotations, by the numbers of the nodes.
  The extraction: the functions of a program, one after another.
-/
import Derived.Test.YtccefhabickfiaaGreatDoorXG5
set_option linter.unusedSimpArgs false
set_option linter.unusedVariables false
set_option linter.unusedSectionVars false
set_option linter.unnecessarySimpa false
namespace Go.Vm
namespace X
open W
variable {B:Base} {call:FuncId->List AV->Tr Blk->Nat->Nat->eQ} {ro:Nat} {e:Env} {c:Cnv} {S:St} {tm:Tr AV} {H:Tr Blk} {nx:Nat} {ν:Nm} {F:cE} {M R:List Ent}
def jc9:Nat->List SV->oI
 | _,[]=>[]
 | n,a::l=>(n,a)::jc9 (n+1) l
theorem j16:∀(ss:List SV) (i n:Nat),gN (jc9 i ss) n=if n<i then none else ss[n-i]?
 | [],i,n=>by simp[jc9,gN]
 | a::as,i,n=>by
   simp only[jc9,gN,bQ];by_cases h:i=n
   ·subst h;simp
   ·simp only[h,aT,aJ];rw[j16 as (i+1) n];by_cases h2:n<i
    ·rw[aK (by omega),aK h2]
    ·rw[aF (by omega),aF h2,show n-i=n-(i+1)+1 by omega];rfl
theorem kea {ss:List SV} {vs:List AV} (h:dO ν F ss vs) {n:Nat} {s:SV} (hn:gN (jc9 0 ss) n=some s):bO ν F s (cP (put vs 0 .e) (.t n)):=by
 rw[j16] at hn;simp only[qh4,dR,sN] at hn;obtain⟨v,h1,h2⟩:=ja9 h hn;obtain⟨h3,h4⟩:=oM.1 h1;have:cP (put vs 0 .e) (.t n)=v:=by simp[cP,xD,h3,h4]
 rw[this];exact h2
def jvt (e:Env) (S:St):CRes->Option SV
 | .t n=>gN (S.fr++e.ct) n
 | .cell a agg size=>match gN (S.fr++e.ct) a with
   | some p=>ldS (look e S) agg size p
   | none=>none
def jlm (e:Env) (S:St):List CRes->Option (List SV)
 | []=>some []
 | r::l=>match jvt e S r,jlm e S l with
   | some s,some ss=>some (s::ss)
   | _,_=>none
def jb3:List SV->SV
 | [s]=>s
 | ss=>.tup ss
theorem kne (h:ConX B ro e c S tm H nx ν F M R) {r:CRes} {s:SV} (hs:jvt e S r=some s):∃v,jha tm H r=some v/\bO ν F s v:=by
 cases r with
 | t n=>exact⟨_,rfl,h.fr n s hs⟩
 | cell a agg size=>
   simp only[jvt] at hs;split at hs<;>try (cases hs;done)
   rename_i p hp;obtain⟨b,o,l,u,h1,h2,h3,h4⟩:=j1x h hs (h.fr a p hp);obtain⟨tc,k1,k2⟩:=h2;obtain⟨k3,k4⟩:=j1y h3;have hg:tm.get a=some (.ptr b o):=by
    simp only[cP] at h1;cases hq:tm.get a with
    | none=>rw[hq] at h1;cases h1
    | some x=>rw[hq] at h1;simp only[qO] at h1;rw[h1]
   refine⟨u,?_,h4⟩;simp only[jha,hg,k1,bE,k3,aU,aH,take_at (H:=H) (b:=b) k2 size o k3,k4]
theorem j36 (h:ConX B ro e c S tm H nx ν F M R):∀ {rs:List CRes} {ss:List SV},jlm e S rs=some ss->∃vs,Q0 tm H rs=some vs/\dO ν F ss vs
 | [],ss,hs=>by cases hs;exact⟨[],rfl,rfl⟩
 | r::l,ss,hs=>by
   simp only[jlm] at hs;split at hs<;>cases hs
   rename_i s ss h1 h2;obtain⟨v,k1,k2⟩:=kne h h1;obtain⟨vs,k3,k4⟩:=j36 h h2;exact⟨v::vs,by simp only[Q0,k1,k3],v,vs,rfl,k2,k4⟩
theorem jvb {ss:List SV} {vs:List AV} (h:dO ν F ss vs):bO ν F (jb3 ss) (W.pack vs):=by
 match ss,h with
 | [],h=>simp only[dO] at h;subst h;exact⟨[],rfl,rfl⟩
 | [s],⟨v,_,e,h1,e2⟩=>simp only[dO] at e2;subst e2;subst e;exact h1
 | s::s'::l,⟨v,m,e,h1,h2⟩=>
   obtain⟨v',m',e',h3,h4⟩:=h2;subst e';subst e;exact⟨_,rfl,v,_,rfl,h1,v',m',rfl,h3,h4⟩
structure Fx where
 nt:Nat
 res:List CRes
 body:AC
 hint:Hint
def Fx.cfn (x:Fx):CFn:=⟨x.nt,x.res,x.body.cc⟩
def jd9 {α:Type} (N:Nat) (ch:CH) (x:Fx) (e:Env) (mv:dT) (nc:Nat) (ss:List SV) (k:SV->St->Option α):Option α:=
 sw (ss.length.ble x.nt) (sx N ch x.hint x.body { e with b0:=nc } ⟨jc9 0 ss,mv,nc⟩ λex S'=>match ex with
  | .exit _=>none
  | _=>match jlm e S' x.res with
    | some rs=>k (jb3 rs) S'
    | none=>none) none
theorem jwh {ch:CH} (hch:xV B call ch) {α:Type} {x:Fx} {mv:dT} {nc:Nat} {ss:List SV} {k:SV->St->Option α} {r:α} (hs:jd9 fuel ch x e mv nc ss k=some r) (hct:e.ct=[])
  (h:ConX B ro e c ⟨[],mv,nc⟩ tm H nx ν F M R) {vs:List AV} (hv:dO ν F ss vs):
  ∃v H' nx' s S' tm' ν' F' M' R',U5 call ro x.cfn vs H nx=some (v,H',nx')/\ConX B ro e c S' tm' H' nx' ν' F' M' R'/\bO ν' F' s v/\k s S'=some r:=by
 unfold jd9 at hs;obtain⟨hlen,hs⟩:=zJ hs;have h0:wX B ro { e with b0:=nc } c ⟨jc9 0 ss,mv,nc⟩ (put vs 0 .e) H nx:=by
  refine⟨ν,F,M,R,h.hk,λn s hn=>?_,h.ov,h.mv,h.wr,h.mc,h.fz,h.gl⟩;rw[hct,kO] at hn;exact kea hv hn
 obtain⟨ex,tm',H',nx',h1,h2⟩:=S5 hch x.body (Post:=λex tm H nx=>(∀i,ex≠ .exit i)/\∃s S' vs' ν' F' M' R',Q0 tm H x.res=some vs'/\ConX B ro e c S' tm H nx ν' F' M' R'/\bO ν' F' s (W.pack vs')/\k s S'=some r) hs (λex S' hS' tm H nx hC=>by
  obtain⟨ν',F',M',R',hC⟩:=hC;have hC:ConX B ro e c S' tm H nx ν' F' M' R':=⟨hC.hk,hC.fr,hC.ov,hC.mv,hC.wr,hC.mc,hC.fz,hC.gl⟩
  have fin:(match jlm e S' x.res with
   | some rs=>k (jb3 rs) S'
   | none=>none)=some r->∃s S' vs' ν' F' M' R',Q0 tm H x.res=some vs'/\ConX B ro e c S' tm H nx ν' F' M' R'/\bO ν' F' s (W.pack vs')/\k s S'=some r:=by
   intro hS';split at hS'<;>try (cases hS';done)
   rename_i rs hrs;obtain⟨vs',k1,k2⟩:=j36 hC hrs;exact⟨_,S',vs',ν',F',M',R',k1,hC,jvb k2,hS'⟩
  cases ex with
  | exit i=>cases hS'
  | normal=>exact⟨λi h=>(by cases h),fin hS'⟩
  | ret=>exact⟨λi h=>(by cases h),fin hS'⟩) _ _ _ h0
 obtain⟨hne,s,S',vs',ν',F',M',R',k1,k2,k3,k4⟩:=h2;refine⟨W.pack vs',H',nx',s,S',tm',ν',F',M',R',?_,k2,k3,k4⟩;have e1:(match Q0 tm' H' x.res with | some [v]=>some (v,H',nx') | some vs=>some (.tup vs,H',nx') | none=>(none:eQ))=some (W.pack vs',H',nx'):=by
  rw[k1];rcases vs' with _ | ⟨v,_ | ⟨w,l⟩⟩<;>rfl
 have hlen':(vs.length.ble x.cfn.nt)=true:=by rw[<-rS hv];exact hlen
 unfold U5;rw[hlen',rY];simp only[aH];have h1':exec call ro x.cfn.body (put vs 0 .e,H,nx)=some (ex,tm',H',nx'):=h1;rw[h1'];cases ex with
 | normal=>exact e1
 | ret=>exact e1
 | exit i=>exact absurd rfl (hne i)
theorem j82 {b:Nat} {sb:SB} {E:List Ent} (h:jW ν F b sb (E.map kY)):jW ν F b sb E:=by
 have one:∀ {w:Bool} {bl:Nat} {cc:HB},E.map kY=[⟨bl,w,cc⟩]->∃w',E=[⟨bl,w',cc⟩]:=by
  intro w bl cc h
  match E,h with
  | [x],h=>
    simp only[dA,lM,kY,sM,Ent.mk.injEq,uT] at h;obtain⟨h1,_,h2⟩:=h;exact⟨x.w,by cases x;simp only at h1 h2;subst h1;subst h2;rfl⟩
  | [],h=>cases h
  | _::_::_,h=>cases h
 cases sb with
 | lit l=>obtain⟨w,m,e1,h⟩:=h;obtain⟨w',e2⟩:=one e1;exact⟨w',m,e2,h⟩
 | fix t n L=>obtain⟨w,m,e1,h⟩:=h;obtain⟨w',e2⟩:=one e1;exact⟨w',m,e2,h⟩
 | mp k v L=>obtain⟨w,m,e1,h⟩:=h;obtain⟨w',e2⟩:=one e1;exact⟨w',m,e2,h⟩
 | arr t L cap=>
   obtain⟨h0,h⟩:=h;refine⟨h0,h.imp (fun⟨a,b⟩=>⟨a,qfm.1 b⟩) fun⟨w,m,e1,h⟩=>?_⟩;obtain⟨w',e2⟩:=one e1;exact⟨w',m,e2,h⟩
theorem jxl:∀ {m:dT} {Ms:List (List Ent)},oX ν F m (Ms.map (List.map kY))->oX ν F m Ms
 | [],Ms,h=>by simpa[oX] using h
 | (b,sb)::m,Ms,⟨E,Ms',e1,h1,h2⟩=>by
   match Ms,e1 with
   | E0::Ms,e1=>
     simp only[dA,sM] at e1;obtain⟨rfl,rfl⟩:=e1;exact⟨E0,Ms,rfl,j82 h1,jxl h2⟩
theorem j8z {b:Nat} {sb:SB} {E:List Ent} (h:jW ν F b sb E):jW ν F b sb (E.map kY):=by
 cases sb with
 | lit l=>obtain⟨w,m,e1,h⟩:=h;exact⟨false,m,by rw[e1];rfl,h⟩
 | fix t n L=>obtain⟨w,m,e1,h⟩:=h;exact⟨false,m,by rw[e1];rfl,h⟩
 | mp k v L=>obtain⟨w,m,e1,h⟩:=h;exact⟨false,m,by rw[e1];rfl,h⟩
 | arr t L cap=>
   obtain⟨h0,h⟩:=h;exact⟨h0,h.imp (fun⟨a,b⟩=>⟨a,by rw[b];rfl⟩) fun⟨w,m,e1,h⟩=>⟨false,m,by rw[e1];rfl,h⟩⟩
theorem jxk:∀ {m:dT} {Ms:List (List Ent)},oX ν F m Ms->oX ν F m (Ms.map (List.map kY))
 | [],Ms,h=>by simp only[oX] at h;subst h;rfl
 | (b,sb)::m,Ms,⟨E,Ms',e1,h1,h2⟩=>by subst e1;exact⟨_,_,rfl,j8z h1,jxk h2⟩
theorem j9f {O:List Ent} {b:Nat} {x:HB} (h:Has (O.map kY) b x):Has O b x:=by
 obtain⟨w,hm⟩:=h.mem;obtain⟨y,hy,e⟩:=bC.1 hm;simp only[kY,Ent.mk.injEq] at e;obtain⟨rfl,_,rfl⟩:=e;exact Has.of_mem (w:=y.w) hy
def jo8 (N:Nat) (code:FuncId->Option Fx) (ch:CH):CH:=λα q f ss e S k=>match code f with
 | none=>none
 | some x=>sw q (jd9 N ch x ⟨[],(dd (S.fr++e.ct)).map Prod.snd++e.ov,S.mv++e.mc,e.G,0⟩ [] S.nc ss λs S'=>k s ⟨S.fr,S'.mv++S.mv,S'.nc⟩)
   (jd9 N ch x ⟨[],(dd (S.fr++e.ct)).map Prod.snd++e.ov,e.mc,e.G,0⟩ S.mv S.nc ss λs S'=>k s ⟨S.fr,S'.mv,S'.nc⟩)
theorem j1k {code:FuncId->Option Fx} {ch:CH} {call':FuncId->List AV->Tr Blk->Nat->Nat->eQ} (hch:xV B call ch) (hcode:∀f x,code f=some x->∀vs H nx ro,call' f vs H nx ro=U5 call ro x.cfn vs H nx):xV B call' (jo8 fuel code ch):=by
 intro α q f ss e S k r hs ro c tm H nx ν F M R h vs hv;unfold jo8 at hs;split at hs<;>try (cases hs;done)
 rename_i x hx;have hcall:=hcode f x hx;have hov:dO ν F ((dd (S.fr++e.ct)).map Prod.snd++e.ov) ((dd (S.fr++e.ct)).map (λx=>cP tm (.t x.1))++c.oa):=
  zQ (jr6 λy hy=>h.fr _ _ (js6 hy)) h.ov
 have back:∀ {ν':Nm} {F':cE},dO ν' F' ((dd (S.fr++e.ct)).map Prod.snd++e.ov) ((dd (S.fr++e.ct)).map (λx=>cP tm (.t x.1))++c.oa)->
   (∀n s,gN (S.fr++e.ct) n=some s->bO ν' F' s (cP tm (.t n)))/\dO ν' F' e.ov c.oa:=by
  intro ν' F' h';obtain⟨k1,k2⟩:=jix (by simp) h';exact⟨λn s hn=>jr7 k1 _ (js7 hn),k2⟩
 cases q with
 | false=>
   have hs:jd9 fuel ch x _ _ _ _ _=some r:=hs;have hC:ConX B ro ⟨[],(dd (S.fr++e.ct)).map Prod.snd++e.ov,e.mc,e.G,0⟩ ⟨(dd (S.fr++e.ct)).map (λx=>cP tm (.t x.1))++c.oa,c.Ml,c.P,R++c.OF⟩ ⟨[],S.mv,S.nc⟩ tm H nx ν F M []:=by
    refine⟨h.hk.perm ?_,λn s hn=>(by cases hn),hov,h.mv,h.wr,h.mc,h.fz,h.gl⟩;simp only[Cnv.Mc,Cnv.O0,fB];exact kI _ (kI _ (mU _ _ _))
   obtain⟨v,H',nx',s,S',tm',ν',F',M',R',h1,h2,h3,h4⟩:=jwh hch hs rfl hC hv;obtain⟨b1,b2⟩:=back h2.ov;refine⟨v,H',nx',s,⟨S.fr,S'.mv,S'.nc⟩,ν',F',M',R'++R,by rw[hcall];exact h1,⟨h2.hk.perm ?_,b1,b2,h2.mv,h2.wr,h2.mc,λy hy=>?_,h2.gl⟩,h3,h4⟩
   ·simp only[Cnv.Mc,Cnv.O0,dX];exact kI _ (kI _ (kI _ (mU _ _ _)))
   ·rw[dX];exact h2.fz y hy
 | true=>
   have hs:jd9 fuel ch x _ _ _ _ _=some r:=hs;obtain⟨Ml,rfl,hMl⟩:=jeu h.mv;have hq:=h.hk.quiet;have hC:ConX B nx ⟨[],(dd (S.fr++e.ct)).map Prod.snd++e.ov,S.mv++e.mc,e.G,0⟩ ⟨(dd (S.fr++e.ct)).map (λx=>cP tm (.t x.1))++c.oa,(Ml++c.Ml).map (List.map kY),c.P.map kY,(R++c.OF).map kY⟩ ⟨[],[],S.nc⟩ tm H nx ν F [] []:=by
    refine⟨hq.perm ?_,λn s hn=>(by cases hn),hov,rfl,λx hx=>(by cases hx),jxk (jet hMl h.mc),λy hy=>?_,h.gl⟩
    ·simp only[Cnv.Mc,Cnv.O0,fB,eI,z6,dX,<-List.map_flatten];exact kI _ (kI _ (mU _ _ _))
    ·rcases h.fz y hy with h1 | h1
     ·exact .inl (by rw[fB];exact h1.quiet)
     ·exact .inr h1
   obtain⟨v,H',nx',s,S',tm',ν',F',M',R',h1,h2,h3,h4⟩:=jwh hch hs rfl hC hv;obtain⟨b1,b2⟩:=back h2.ov;have hmc:=jxl h2.mc;obtain⟨m1,m2⟩:=jnj (jit hMl) hmc;have hun:=h.hk.unquiet (N:=M'++R') (h2.hk.perm (by
    simp only[Cnv.Mc,Cnv.O0,eI,z6,dX,<-List.map_flatten];refine kI _ ?_;have p1:=mU (R') (Ml.flatten.map kY++(c.Ml.flatten.map kY)) (R.map kY++(c.P.map kY++c.OF.map kY));have p2:(Ml.flatten.map kY++(c.Ml.flatten.map kY++(R'++(R.map kY++(c.P.map kY++c.OF.map kY))))).Perm (Ml.flatten.map kY++(c.Ml.flatten.map kY++(R'++(c.P.map kY++(R.map kY++c.OF.map kY))))):=
     kI _ (kI _ (kI _ (mU _ _ _)))
    simp only[dX] at p1;exact p1.trans p2))
   refine⟨v,H',nx',s,⟨S.fr,S'.mv++S.mv,S'.nc⟩,ν',F',M'++Ml.flatten,R'++R,by rw[hcall];exact h1,⟨hun.perm ?_,b1,b2,Z3 h2.mv (jis m1),λy hy=>?_,m2,λy hy=>?_,h2.gl⟩,h3,h4⟩
   ·simp only[Cnv.Mc,Cnv.O0,dX];refine kI _ ?_;have p1:=mU (R') (Ml.flatten++c.Ml.flatten) (R++(c.P++c.OF));simp only[dX] at p1;exact p1.symm
   ·rcases bU.1 hy with h5 | h5
    ·exact h2.wr y h5
    ·exact h.wr y h5
   ·rcases h2.fz y hy with h5 | h5
    ·left;obtain⟨w,hm⟩:=h5.mem;rcases bU.1 hm with h6 | h6
     ·exact Has.of_mem (w:=w) (by simp[h6])
     ·have:=j9f (Has.of_mem h6);obtain⟨w2,hm2⟩:=this.mem;exact Has.of_mem (w:=w2) (by
       rcases bU.1 hm2 with h7 | h7<;>simp[h7])
    ·exact .inr h5
end X
end Go.Vm
namespace Go.Vm
namespace X
open W
variable {B:Base} {call:FuncId->List AV->Tr Blk->Nat->Nat->eQ} {ro:Nat} {e:Env} {c:Cnv} {S:St} {tm:Tr AV} {H:Tr Blk} {nx:Nat} {ν:Nm} {F:cE} {M R:List Ent}
structure TE where
 f:FuncId
 ins:List Rep
 outs:List Rep
 run:iX ins->Option (iX outs)
def Z4 (F:cE) (outs:List Rep) (x:iX outs) (v:AV) (E:List Ent):Prop:=∃vs,v=W.pack vs/\vA F outs x vs E
def rA (B:Base) (x:Nat×HB):Prop:=x.1<B.nx0/\x.2.At B.H0 x.1
def TE.OK (B:Base) (call:FuncId->List AV->Tr Blk->Nat->Nat->eQ) (t:TE):Prop:=
 ∀a r,t.run a=some r->∀ro O E0 H nx,HK B ro (E0++O) H nx->(∀x∈E0,x.w=true)->∀A:cE,(∀x∈A,Has O x.1 x.2\/rA B x)->∀vs,vA A t.ins a vs E0->
  ∃v E N H' nx' F',call t.f vs H nx ro=some (v,H',nx')/\HK B ro (E++(N++O)) H' nx'/\(∀x∈E,x.w=true)/\(∀x∈F',Has N x.1 x.2\/x∈A\/rA B x)/\Z4 F' t.outs r v E
def Ty.noSl:Ty->Bool
 | .sl _ | .slx _=>false
 | .prod a b=>a.noSl&&b.noSl
 | .arr _ t=>t.noSl
 | _=>true
def Rep.noSl:Rep->Bool
 | .d t | .own t | .ownc t | .ownx t=>t.noSl
 | .dn _=>false
 | .sf _=>false
 | .aw t=>t.noSl
 | .mp k v=>k.noSl&&v.noSl
 | .dx _=>false
 | .p a b=>a.noSl&&b.noSl
 | _=>true
theorem jcp {F':cE}:∀(t:Ty),t.noSl=true->∀(x:t.den) (l:List AV),cT F t x l->cT F' t x l
 | .int k,_,x,l,h=>h
 | .bool,_,x,l,h=>h
 | .str,_,x,l,h=>h
 | .unit,_,x,l,h=>h
 | .prod a b,ht,x,l,⟨l1,l2,e,h1,h2⟩=>by
   simp only[Ty.noSl,aW] at ht;exact⟨l1,l2,e,jcp a ht.1 _ _ h1,jcp b ht.2 _ _ h2⟩
 | .arr n t,ht,x,l,⟨h1,h2⟩=>⟨h1,tY (jcp t ht) h2⟩
 | .sl t,ht,x,l,h=>by cases ht
 | .slx t,ht,x,l,h=>by cases ht
theorem jnn {F':cE} {t:Ty} (ht:t.noSl=true) {L:List t.den} {cap:Option Nat} {v:AV} {E:List Ent} (h:o7 F t L cap v E):o7 F' t L cap v E:=by
 obtain⟨x,h1,h0,h2⟩:=h;exact⟨x,h1,h0,h2.imp id fun⟨w,m,e1,h3,h4,h5⟩=>⟨w,m,e1,h3,tY (jcp t ht) h4,h5⟩⟩
theorem jxw {F':cE} {t:Ty} (ht:t.noSl=true) {x:t.den} {v:AV} (h:Rel F t x v):Rel F' t x v:=by
 unfold Rel at h ⊢;cases ha:t.agg with
 | true=>rw[ha] at h;obtain⟨l,e,h⟩:=h;exact⟨l,e,jcp t ht _ _ h⟩
 | false=>rw[ha] at h;exact jcp t ht _ _ h
theorem jxp {F':cE} {k v:Ty} (hk:k.noSl=true) (hv:v.noSl=true):∀ {L:List (k.den×v.den)} {m:List (AV×AV)},H7 F k v L m->H7 F' k v L m
 | [],_,h=>h
 | _::_,_,⟨a,b,m',e,h1,h2,h3⟩=>⟨a,b,m',e,jxw hk h1,jxw hv h2,jxp hk hv h3⟩
theorem jnt {F':cE}:∀(r:Rep),r.noSl=true->∀(x:r.den) (l:List AV) (E:List Ent),o8 F r x l E->o8 F' r x l E
 | .d t,ht,x,l,E,⟨h1,h2,h3⟩=>⟨h1,jcp t ht _ _ h2,h3⟩
 | .own t,ht,x,l,E,⟨v,e1,h⟩=>⟨v,e1,jnn ht h⟩
 | .ownc t,ht,x,l,E,⟨v,e1,h⟩=>⟨v,e1,jnn ht h⟩
 | .ownx t,ht,x,l,E,⟨v,e1,h⟩=>⟨v,e1,jnn ht h⟩
 | .p a b,ht,x,l,E,⟨l1,l2,E1,E2,e1,e2,h1,h2⟩=>by
   simp only[Rep.noSl,aW] at ht;exact⟨l1,l2,E1,E2,e1,e2,jnt a ht.1 _ _ _ h1,jnt b ht.2 _ _ _ h2⟩
 | .u,_,x,l,E,h=>h
 | .err,_,x,l,E,h=>h
 | .fn f,_,x,l,E,h=>h
 | .nl,_,x,l,E,h=>h
 | .aw t,ht,x,l,E,⟨v,e1,h⟩=>⟨v,e1,jnn ht h⟩
 | .mp k v,ht,x,l,E,⟨b,m,e1,e2,h⟩=>by
   simp only[Rep.noSl,aW] at ht;exact⟨b,m,e1,e2,jxp ht.1 ht.2 h⟩
 | .dn t,ht,x,l,E,h=>by cases ht
 | .dx t,ht,x,l,E,h=>by cases ht
 | .sf t,ht,x,l,E,h=>by cases ht
theorem jxz {F':cE} {r:Rep} (hr:r.noSl=true) {x:r.den} {v:AV} {E:List Ent} (h:mZ F r x v E):mZ F' r x v E:=by
 unfold mZ at h ⊢;cases ha:r.agg with
 | true=>
   rw[ha] at h;obtain⟨m,e1,h⟩:=h;exact⟨m,e1,jnt r hr _ _ _ h⟩
 | false=>
   rw[ha] at h;exact jnt r hr _ _ _ h
theorem jx1 {F':cE}:∀ {l:List Rep},l.all Rep.noSl=true->∀ {x:iX l} {vs:List AV} {E:List Ent},vA F l x vs E->vA F' l x vs E
 | [],_,x,vs,E,h=>h
 | [r],hr,x,vs,E,⟨v,e1,h⟩=>by
   simp only[X5,List.all_nil,rN] at hr;exact⟨v,e1,jxz hr h⟩
 | r::r'::l,hr,x,vs,E,⟨v,vs',E1,E2,e1,e2,h1,h2⟩=>by
   simp only[X5,aW] at hr;exact⟨v,vs',E1,E2,e1,e2,jxz hr.1 h1,jx1 (l:=r'::l) (by simp[X5,hr.2.1,hr.2.2]) h2⟩
theorem jnw {F':cE} (hF:∀x∈F,x∈F'):∀ {l:List Rep} {x:iX l} {vs:List AV} {E:List Ent},vA F l x vs E->vA F' l x vs E
 | [],x,vs,E,h=>h
 | [r],x,vs,E,⟨v,e1,h⟩=>⟨v,e1,jnv hF h⟩
 | r::r'::l,x,vs,E,⟨v,vs',E1,E2,e1,e2,h1,h2⟩=>⟨v,vs',E1,E2,e1,e2,jnv hF h1,jnw hF h2⟩
def jbc (lm:Nat->Option SB) (r:Rep) (s:SV):Option r.den:=match r with
 | .d t=>bif t.ok then jdq lm t s else none
 | .err=>match s with
   | .err b=>some b
   | .nili=>some true
   | _=>none
 | .fn f=>match s with
   | .fn f' [] []=>bif Nat.beq f' f then some () else none
   | _=>none
 | .nl=>match s with
   | .nils=>some ()
   | _=>none
 | .sf f=>match s with
   | .sptr f'=>bif Nat.beq f' f then some () else none
   | .ptr b 0=>match lm b with
     | some (.lit [.fn f' [] [.ptr b' 0]])=>bif Nat.blt b gB&&Nat.beq f' f&&Nat.beq b' b then some () else none
     | _=>none
   | _=>none
 | _=>none
def jsa (ν:Nm) (F:cE) (lm:Nat->Option SB):Prop:=∀b f,b<gB->lm b=some (.lit [.fn f [] [.ptr b 0]])->((ν b).1,HB.cells [.fn (.func f) [] [.ptr (ν b).1 0]])∈F
theorem ConX.selfR (h:ConX B ro e c S tm H nx ν F M R):jsa ν (ji2 F c M) (X.look e S):=by
 intro b f hb hl;unfold X.look at hl;split at hl
 ·rename_i y hy;cases hl;obtain⟨M1,E,M2,e1,⟨w,m,rfl,hm⟩,_⟩:=ja8 (Z3 h.mv h.mcm) hy;obtain⟨v,_,rfl,⟨a',c',rfl,h1,⟨u,_,rfl,h2,rfl⟩⟩,rfl⟩:=hm;simp only[dO] at h1;subst h1;simp only[bO] at h2;subst h2;refine bU.2 (.inr ?_);rw[e1];exact bC.2 ⟨⟨(ν b).1,w,.cells [.fn (.func f) [] [.ptr (ν b).1 0]]⟩,by simp,rfl⟩
 ·have:=(h.gl.2 _ _ hl).1;omega
def jcv (lm:Nat->Option SB):(l:List Rep)->List SV->Option (iX l)
 | [],ss=>match ss with
   | []=>some ()
   | _=>none
 | [r],ss=>match ss with
   | [s]=>jbc lm r s
   | _=>none
 | r::r'::l,ss=>match ss with
   | s::ss=>match jbc lm r s,jcv lm (r'::l) ss with
     | some x,some y=>some (x,y)
     | _,_=>none
   | _=>none
theorem jyn {lm:Nat->Option SB} (ho:jcn ν F lm) (hsf:jsa ν F lm) {r:Rep} {s:SV} {x:r.den} (h:jbc lm r s=some x) {v:AV} (hv:bO ν F s v):mZ F r x v []:=by
 cases r with
 | d t=>
   simp only[jbc] at h;obtain⟨ht,h⟩:=cF h;have:=jlc ho h hv;unfold Rel at this;unfold mZ;simp only[Rep.agg];cases ha:t.agg with
   | true=>
     rw[ha] at this;obtain⟨m,e1,h1⟩:=this;exact⟨m,e1,ht,h1,rfl⟩
   | false=>
     rw[ha] at this;exact⟨ht,this,rfl⟩
 | err=>
   simp only[jbc] at h;split at h<;>try (cases h;done)
   ·cases h;exact⟨v,rfl,hv,rfl⟩
   ·cases h;exact⟨v,rfl,.inl ⟨rfl,hv⟩,rfl⟩
 | fn f=>
   simp only[jbc] at h;split at h<;>try (cases h;done)
   obtain⟨hf,h⟩:=cF h;rw[bQ,aQ] at hf;subst hf;obtain⟨a',c',rfl,h1,h2⟩:=hv;simp only[dO] at h1 h2;subst h1;subst h2;exact⟨rfl,rfl⟩
 | nl=>
   simp only[jbc] at h;split at h<;>try (cases h;done)
   have hv:v=.nils:=hv;subst hv;exact⟨rfl,rfl⟩
 | sf f=>
   simp only[jbc] at h;split at h<;>try (cases h;done)
   ·obtain⟨hf,h⟩:=cF h;rw[bQ,aQ] at hf;subst hf;obtain⟨b,rfl,hb⟩:=hv;exact⟨⟨b,rfl,hb⟩,rfl⟩
   ·split at h<;>try (cases h;done)
    rename_i b f' b' hl;obtain⟨hf,h⟩:=cF h;simp only[aW,bQ,aQ,Nat.blt,bE] at hf;obtain⟨⟨h1,rfl⟩,rfl⟩:=hf;have hv:v=.ptr (ν b').1 0:=hv;subst hv;exact⟨⟨_,rfl,hsf b' f' (by omega) hl⟩,rfl⟩
 | _=>cases h
theorem jsl {lm:Nat->Option SB} (ho:jcn ν F lm) (hsf:jsa ν F lm):∀ {l:List Rep} {ss:List SV} {x:iX l},jcv lm l ss=some x->∀ {vs:List AV},dO ν F ss vs->vA F l x vs []
 | [],ss,x,h,vs,hv=>by
   simp only[jcv] at h;split at h<;>cases h
   exact⟨hv,rfl⟩
 | [r],ss,x,h,vs,hv=>by
   simp only[jcv] at h;split at h<;>try (cases h;done)
   obtain⟨v,_,rfl,h1,rfl⟩:=hv;exact⟨v,rfl,jyn ho hsf h h1⟩
 | r::r'::l,ss,x,h,vs,hv=>by
   simp only[jcv] at h;split at h<;>try (cases h;done)
   split at h<;>cases h
   rename_i x y h1 h2;obtain⟨v,m,rfl,v1,v2⟩:=hv;exact⟨v,m,[],[],rfl,rfl,jyn ho hsf h1 v1,jsl ho hsf h2 v2⟩
def joc {α:Type} (t:TE) (ss:List SV) (e:Env) (S:St) (k:SV->St->Option α):Option α:=
 sw (t.outs.all Rep.noSl) (match jcv (look e S) t.ins ss with
  | some a=>(t.run a).bind λr=>match K7 t.outs r e S with
    | some (rs,S)=>k (jb3 rs) S
    | none=>none
  | none=>none)
 (match jbk S.mv ss with
   | some (mv,ss)=>match jcv D6 t.ins ss with
     | some a=>(t.run a).bind λr=>match K7 t.outs r e { S with mv:=mv } with
       | some (rs,S)=>k (jb3 rs) S
       | none=>none
     | none=>none
   | none=>none)
def Rep.owns:Rep->Bool
 | .own _ | .ownc _ | .ownx _ | .aw _ | .mp _ _=>true
 | .p a b=>a.owns||b.owns
 | _=>false
def jsr {α:Type} (t:TE) (ss:List SV) (e:Env) (S:St) (k:SV->St->Option α):Option α:=
 match C8 t.ins S.mv ss with
  | some (c,mv,a)=>uB c ((t.run a).bind λr=>match K7 t.outs r e { S with mv:=mv } with
     | some (rs,S)=>k (jb3 rs) S
     | none=>none)
  | none=>none
def jou:List TE->FuncId->Option TE
 | [],_=>none
 | t::r,f=>bif Nat.beq t.f f then some t else jou r f
theorem j0q:∀ {T:List TE} {f:FuncId} {t:TE},jou T f=some t->t∈T/\t.f=f
 | [],f,t,h=>by cases h
 | t'::r,f,t,h=>by
   simp only[jou] at h;cases hb:Nat.beq t'.f f<;>rw[hb] at h<;>simp only[aH,aJ] at h
   ·obtain⟨h1,h2⟩:=j0q h;exact⟨bL _ h1,h2⟩
   ·cases h;rw[bQ,aQ] at hb;exact⟨bH ..,hb⟩
def kb3 {α:Type} (t:TE) (ss:List SV) (e:Env) (S:St) (k:SV->St->Option α):Option α:=joc t (jdu (jlb ss) S ss).2 e (jdu (jlb ss) S ss).1 k
def jh3 (T:List TE) (ch:CH):CH:=λα q f ss e S k=>match jou T f with
 | some t=>sw (t.ins.any Rep.owns) (sw q none (jsr t ss e S k)) (sw (t.outs.all Rep.noSl) (joc t ss e S k) (kb3 t ss e S k))
 | none=>ch α q f ss e S k
theorem jt1 {E:List Ent} {l:List Rep} (h:ConX B ro e (c.park E) S tm H nx ν F M R) {x:iX l} {v:AV} (hr:Z4 F l x v E) (hw:∀x∈E,x.w=true) {ss:List SV} {S':St} (hs:K7 l x e S=some (ss,S')):
  ∃ν' M',ConX B ro e c S' tm H nx ν' F M' R/\bO ν' F (jb3 ss) v:=by
 obtain⟨vs,rfl,hr⟩:=hr;obtain⟨ν',M',h1,h2,_⟩:=jjz l h hr hw hs;exact⟨ν',M',h1,jvb h2⟩
theorem jst (S:St) (F:cE) (M R:List Ent) (F2:cE) (E0:List Ent) (h:ConX B ro e (c.park E0) S tm H nx ν F M R):∀(E N:List Ent) H' nx',HK B ro (E++(N++(M++(c.Mc++(R++c.O0))))) H' nx'->(∀x∈F2,Has (N++(R++c.OF)) x.1 x.2\/rA B x)->
  ConX B ro e (c.park E) S tm H' nx' ν (F2++F) M (N++R):=by
 intro E N H' nx' hk hF2;have up:∀x∈F,x∈F2++F:=λx hx=>bU.2 (.inr hx)
 refine⟨hk.perm ?_,λn s hn=>zP up _ _ (h.fr n s hn),sD up _ _ h.ov,jcm up h.mv,h.wr,jcl up h.mc,λx hx=>?_,h.gl⟩
 ·have e1:(c.park E).O0=E++c.O0:=by simp[Cnv.O0,Cnv.park]
  rw[e1];show(M++(c.Mc++((N++R)++(E++c.O0)))).Perm _;rw[dX];have p1:(N++(R++(E++c.O0))).Perm (E++(N++(R++c.O0))):=(kI N (mU R E c.O0)).trans (mU N E _);have p2:(c.Mc++(E++(N++(R++c.O0)))).Perm (E++(N++(c.Mc++(R++c.O0)))):=(mU c.Mc E _).trans (kI E (mU c.Mc N _));have p3:(M++(E++(N++(c.Mc++(R++c.O0))))).Perm (E++(N++(M++(c.Mc++(R++c.O0))))):=(mU M E _).trans (kI E (mU M N _));exact(kI M ((kI c.Mc p1).trans p2)).trans p3
 ·rw[dX];rcases bU.1 hx with hx | hx
  ·exact hF2 x hx
  ·exact(h.fz x hx).imp (λh=>Has.append_right h) id
theorem jzn {t:TE} (ht:t.OK B call) {α:Type} {q:Bool} {ss:List SV} {k:SV->St->Option α} {r:α} (hs:joc t ss e S k=some r) (h:ConX B ro e c S tm H nx ν F M R) {vs:List AV} (hv:dO ν F ss vs):
  ∃v H' nx' s S' ν' F' M' R',call t.f vs H nx (bif q then nx else ro)=some (v,H',nx')/\ConX B ro e c S' tm H' nx' ν' F' M' R'/\bO ν' F' s v/\k s S'=some r:=by
 have base:∀(S:St) (F:cE) (M R:List Ent) (A:cE),ConX B ro e c S tm H nx ν F M R->∀a r,t.run a=some r->(∀x∈A,Has (M++(c.Mc++(R++c.O0))) x.1 x.2\/rA B x)->vA A t.ins a vs []->
   ∃v E N H' nx' F',call t.f vs H nx (bif q then nx else ro)=some (v,H',nx')/\HK B ro (E++(N++(M++(c.Mc++(R++c.O0))))) H' nx'/\(∀x∈E,x.w=true)/\(∀x∈F',Has N x.1 x.2\/x∈A\/rA B x)/\Z4 F' t.outs r v E:=by
  intro S F M R A h a r hr hA hargs;cases q with
  | false=>
    obtain⟨v,E,N,H',nx',F',h1,h2,h3,h4,h5⟩:=ht a r hr ro _ [] H nx h.hk (λ_ h=>by cases h) A hA vs hargs;exact⟨v,E,N,H',nx',F',h1,h2,h3,h4,h5⟩
  | true=>
    obtain⟨v,E,N,H',nx',F',h1,h2,h3,h4,h5⟩:=ht a r hr nx _ [] H nx h.hk.quiet (λ_ h=>by cases h) A (λx hx=>(hA x hx).imp (λh=>h.quiet) id) vs hargs;refine⟨v,E,N,H',nx',F',h1,?_,h3,h4,h5⟩;have:=h.hk.unquiet (N:=E++N) (by rw[dX];exact h2);rw[dX] at this;exact this
 have after:∀(S:St) (F:cE) (M R:List Ent) (F2:cE),ConX B ro e c S tm H nx ν F M R->∀(E N:List Ent) H' nx',HK B ro (E++(N++(M++(c.Mc++(R++c.O0))))) H' nx'->(∀x∈F2,Has (N++(R++c.OF)) x.1 x.2\/rA B x)->
  ConX B ro e (c.park E) S tm H' nx' ν (F2++F) M (N++R):=λS F M R F2 h=>jst S F M R F2 [] h
 unfold joc at hs;cases hns:t.outs.all Rep.noSl with
 | true=>
   rw[hns] at hs;split at hs<;>try (cases hs;done)
   rename_i a ha;obtain⟨y,hy,hs⟩:=jR.1 hs;split at hs<;>try (cases hs;done)
   rename_i rs S1 hi;have ho:jcn ν (ji2 F c M) (look e S):=λb t L cap hl=>by
    obtain⟨k1,k2⟩:=h.ownR b t L cap hl;exact⟨jny (λ_ h=>h) (λ_ _=>tY (oP (λx hx=>bU.2 (.inl hx)) t)) k1,k2⟩
   have hargs:=jsl ho h.selfR ha (sD (λx hx=>bU.2 (.inl hx)) _ _ hv);have hA:∀x∈ji2 F c M,Has (M++(c.Mc++(R++c.O0))) x.1 x.2\/rA B x:=λx hx=>by
    rcases bU.1 hx with hx | hx
    ·rcases h.fz x hx with h1 | h1
     ·obtain⟨w,hm⟩:=h1.mem;left;exact Has.of_mem (w:=w) (by
       simp only[Cnv.O0];rcases bU.1 hm with h2 | h2<;>simp[h2])
     ·exact .inr h1
    ·left;obtain⟨z,hz,rfl⟩:=bC.1 hx;exact Has.of_mem (w:=z.w) (by rcases bU.1 hz with h2 | h2<;>simp[h2])
   obtain⟨v,E,N,H',nx',F',k1,k2,k3,k4,vs',rfl,k5⟩:=base S F M R _ h a y hy hA hargs;have hC:=after S F M R [] h E N H' nx' k2 (λx hx=>by cases hx);obtain⟨ν',M',j1,j2⟩:=jt1 hC ⟨vs',rfl,jx1 hns k5⟩ k3 hi;exact⟨_,H',nx',_,S1,ν',_,M',_,k1,j1,j2,hs⟩
 | false=>
   rw[hns,jqu] at hs;simp only[aJ] at hs;split at hs<;>try (cases hs;done)
   rename_i mv ss' hf;split at hs<;>try (cases hs;done)
   rename_i a ha;obtain⟨y,hy,hs⟩:=jR.1 hs;split at hs<;>try (cases hs;done)
   rename_i rs S1 hi;obtain⟨F1,M1,R1,q1,q2,q3⟩:=jjw h ss hf;have hargs:=jsl (F:=F1) B5 (λb f _ h=>by cases h) ha (q3 vs hv);have hA:∀x∈F1,Has (M1++(c.Mc++(R1++c.O0))) x.1 x.2\/rA B x:=λx hx=>by
    rcases q1.fz x hx with h1 | h1
    ·obtain⟨w,hm⟩:=h1.mem;left;exact Has.of_mem (w:=w) (by
      simp only[Cnv.O0];rcases bU.1 hm with h2 | h2<;>simp[h2])
    ·exact .inr h1
   obtain⟨v,E,N,H',nx',F',k1,k2,k3,k4,k5⟩:=base { S with mv:=mv } F1 M1 R1 F1 q1 a y hy hA hargs;have hC:=after { S with mv:=mv } F1 M1 R1 F' q1 E N H' nx' k2 (λx hx=>by
    rcases k4 x hx with h1 | h1 | h1
    ·exact .inl (Has.append_left h1)
    ·exact(q1.fz x h1).imp (λh=>Has.append_right h) id
    ·exact .inr h1)
   obtain⟨vs',rfl,k5⟩:=k5;obtain⟨ν',M',j1,j2⟩:=jt1 hC ⟨vs',rfl,jnw (λx hx=>bU.2 (.inl hx)) k5⟩ k3 hi;exact⟨_,H',nx',_,S1,ν',_,M',_,k1,j1,j2,hs⟩
theorem kb6 {t:TE} (ht:t.OK B call) {α:Type} {ss:List SV} {k:SV->St->Option α} {r:α} (hs:jsr t ss e S k=some r) (h:ConX B ro e c S tm H nx ν F M R) {vs:List AV} (hv:dO ν F ss vs):
  ∃v H' nx' s S' ν' F' M' R',call t.f vs H nx ro=some (v,H',nx')/\ConX B ro e c S' tm H' nx' ν' F' M' R'/\bO ν' F' s v/\k s S'=some r:=by
 unfold jsr at hs;split at hs<;>try (cases hs;done)
 rename_i cc mv a ha;obtain⟨hc,hs⟩:=xY hs;obtain⟨y,hy,hs⟩:=jR.1 hs;split at hs<;>try (cases hs;done)
 rename_i rs S1 hi;obtain⟨E0,F1,M1,R1,q1,q2,q3,q4⟩:=jop t.ins h ha hc hv;have p0:(M1++(c.Mc++(R1++(c.park E0).O0))).Perm (E0++(M1++(c.Mc++(R1++c.O0)))):=by
  have e1:(c.park E0).O0=E0++c.O0:=by simp[Cnv.O0,Cnv.park]
  rw[e1];have p1:(R1++(E0++c.O0)).Perm (E0++(R1++c.O0)):=mU R1 E0 _;have p2:(c.Mc++(R1++(E0++c.O0))).Perm (E0++(c.Mc++(R1++c.O0))):=(kI c.Mc p1).trans (mU c.Mc E0 _);exact(kI M1 p2).trans (mU M1 E0 _)
 have hk:HK B ro (E0++(M1++(c.Mc++(R1++c.O0)))) H nx:=q1.hk.perm p0.symm;have hA:∀x∈F1,Has (M1++(c.Mc++(R1++c.O0))) x.1 x.2\/rA B x:=λx hx=>by
  rcases q1.fz x hx with h1 | h1
  ·obtain⟨w,hm⟩:=h1.mem;left;exact Has.of_mem (w:=w) (by
    simp only[Cnv.O0];rcases bU.1 hm with h2 | h2
    ·simp[h2]
    ·have h3:(⟨x.1,w,x.2⟩:Ent)∈c.OF:=h2;simp[h3])
  ·exact .inr h1
 obtain⟨v,E,N,H',nx',F',k1,k2,k3,k4,k5⟩:=ht a y hy ro _ E0 H nx hk q2 F1 hA vs q4;have hC:=jst { S with mv:=mv } F1 M1 R1 F' E0 q1 E N H' nx' k2 (λx hx=>by
  rcases k4 x hx with h1 | h1 | h1
  ·exact .inl (Has.append_left h1)
  ·exact(q1.fz x h1).imp (λh=>Has.append_right h) id
  ·exact .inr h1)
 obtain⟨vs',rfl,k5⟩:=k5;obtain⟨ν',M',j1,j2⟩:=jt1 hC ⟨vs',rfl,jnw (λx hx=>bU.2 (.inl hx)) k5⟩ k3 hi;exact⟨_,H',nx',_,S1,ν',_,M',_,k1,j1,j2,hs⟩
theorem jrg {T:List TE} (hT:∀t∈T,t.OK B call) {ch:CH} (hch:xV B call ch):xV B call (jh3 T ch):=by
 intro α q f ss e S k r hs ro c tm H nx ν F M R h vs hv;unfold jh3 at hs;split at hs
 ·rename_i t ht;obtain⟨h1,rfl⟩:=j0q ht;rw[jqu] at hs;cases ho:t.ins.any Rep.owns with
  | false=>
    rw[ho] at hs;simp only[aJ,jqu] at hs;cases hn:t.outs.all Rep.noSl with
    | true=>
      rw[hn] at hs;exact jzn (hT t h1) hs h hv
    | false=>
      rw[hn] at hs;obtain⟨F1,M1,R1,q1,_,q3⟩:=jvh (jlb ss) (ss:=ss) h;exact jzn (hT t h1) hs q1 (q3 vs hv)
  | true=>
    rw[ho] at hs;obtain⟨hq,hs⟩:=jl2 hs;subst hq;exact kb6 (hT t h1) hs h hv
 ·exact hch α q f ss e S k r hs ro c tm H nx ν F M R h vs hv
def noC:CH:=λ_ _ _ _ _ _ _=>none
theorem j2s:xV B call noC:=λα q f ss e S k r hs=>by cases hs
def j6b (outs:List Rep) (s:SV):Option (List SV):=bif outs.length.beq 1 then some [s] else match s with
 | .tup l=>some l
 | _=>none
def eJ (N:Nat) (ch:CH) (G:dT) (x:Fx) (ins outs:List Rep) (a:iX ins):Option (iX outs):=
 match K7 ins a ⟨[],[],[],G,0⟩ ⟨[],[],0⟩ with
 | some (ss,S)=>jd9 N ch x ⟨[],[],[],G,0⟩ S.mv S.nc ss λs S=>match j6b outs s with
   | some ss=>match C8 outs S.mv ss with
     | some (c,_,y)=>uB c (some y)
     | none=>none
   | none=>none
 | none=>none
def nu0:Nm:=λb=>(b-gB,.nils)
theorem j4d {ch:CH} (hch:xV B call ch) {G:dT} (hG:GRel B nu0 G) {x:Fx} {ins outs:List Rep} {f:FuncId} {call':FuncId->List AV->Tr Blk->Nat->Nat->eQ} (hcall:∀vs H nx ro,call' f vs H nx ro=U5 call ro x.cfn vs H nx):
  TE.OK B call' ⟨f,ins,outs,eJ fuel ch G x ins outs⟩:=by
 classical
 intro a r hr ro O E0 H nx hk hw0 A hA vs hargs;simp only[eJ] at hr;split at hr<;>try (cases hr;done)
 rename_i ss S1 hi;have h0:ConX B ro ⟨[],[],[],G,0⟩ (Cnv.park ⟨[],[],O.filter (λx=> !decide ((x.b,x.c)∈A)),O.filter (λx=>decide ((x.b,x.c)∈A))⟩ E0) ⟨[],[],0⟩ .e H nx nu0 A [] []:=by
  refine⟨hk.perm ?_,λn s hn=>(by cases hn),rfl,rfl,λx hx=>(by cases hx),rfl,λy hy=>?_,hG⟩
  ·show((E0++O.filter _)++O.filter _).Perm (E0++O);rw[dX];exact kI E0 (List.perm_append_comm.trans (qio _ O))
  ·rcases hA y hy with h1 | h1
   ·obtain⟨w,hm⟩:=h1.mem;exact .inl (Has.of_mem (w:=w) (jS.2 ⟨hm,by simpa using hy⟩))
   ·exact .inr h1
 obtain⟨ν1,M1,h1,h2,_,hfr,_⟩:=jjz ins h0 hargs hw0 hi;have h1':ConX B ro ⟨[],[],[],G,0⟩ ⟨[],[],O.filter (λx=> !decide ((x.b,x.c)∈A)),O.filter (λx=>decide ((x.b,x.c)∈A))⟩ ⟨[],S1.mv,S1.nc⟩ .e H nx ν1 A M1 []:=by
  have:S1=⟨[],S1.mv,S1.nc⟩:=by cases S1;simp only at hfr;subst hfr;rfl
  rw[<-this];exact h1
 obtain⟨v,H',nx',s,S2,tm',ν',F',M',R',k1,k2,k3,k4⟩:=jwh hch hr rfl h1' h2;split at k4<;>try (cases k4;done)
 rename_i rs hrs;split at k4<;>try (cases k4;done)
 rename_i cc mv y hex;obtain⟨hc,k4⟩:=xY k4;cases k4;obtain⟨vs',hv',hsv⟩:∃vs',v=W.pack vs'/\dO ν' F' rs vs':=by
  unfold j6b at hrs;cases hl:outs.length.beq 1 with
  | true=>
    rw[hl] at hrs;cases hrs;exact⟨[v],rfl,v,[],rfl,k3,rfl⟩
  | false=>
    rw[hl] at hrs;simp only[aJ] at hrs;split at hrs<;>cases hrs
    obtain⟨m,rfl,hm⟩:=k3;have lens:∀(l:List Rep) (mv:dT) (ss:List SV) (z:Option Bool×dT×iX l),C8 l mv ss=some z->ss.length=l.length:=by
     intro l;induction l with
     | nil=>intro mv ss z h;simp only[C8] at h;split at h<;>cases h;rfl
     | cons a l ih=>
       intro mv ss z h;cases l with
       | nil=>
         simp only[C8] at h;split at h
         ·rfl
         ·cases h
       | cons b l=>
         simp only[C8] at h;split at h<;>try (cases h;done)
         split at h<;>try (cases h;done)
         split at h<;>try (cases h;done)
         rename_i h2;have:=ih _ _ _ h2;simp only[cL] at this ⊢;omega
    have hlen:=lens _ _ _ _ hex;refine⟨m,?_,hm⟩;rw[bQ,iU,<-hlen,rS hm] at hl
    match m,hl with
    | a::b::m,_=>rfl
    | [a],hml=>simp at hml
    | [],_=>rfl
 obtain⟨E,F2,M2,R2,j1,j2,j3,j4⟩:=jop outs k2 hex hc hsv;refine⟨v,E,M2++R2,H',nx',F2,by rw[hcall];exact k1,j1.hk.perm ?_,j2,λz hz=>?_,vs',hv',j4⟩
 ·simp only[Cnv.Mc,Cnv.O0,Cnv.park,qgb,fB,dX];have p1:O.Perm (O.filter (λx=> !decide ((x.b,x.c)∈A))++O.filter (λx=>decide ((x.b,x.c)∈A))):=(List.perm_append_comm.trans (qio _ O)).symm;refine(kI E (kI M2 (kI R2 p1))).trans ?_;have p2:=mU M2 E (R2++(O.filter (λx=> !decide ((x.b,x.c)∈A))++O.filter (λx=>decide ((x.b,x.c)∈A))));refine p2.symm.trans (kI M2 ?_);exact(mU R2 E _).symm
 ·rcases j1.fz z hz with h3 | h3
  ·obtain⟨w,hm⟩:=h3.mem;rcases bU.1 hm with h4 | h4
   ·exact .inl (Has.of_mem (w:=w) (bU.2 (.inr h4)))
   ·exact .inr (.inl (by simpa using (jS.1 h4).2))
  ·exact .inr (.inr h3)
end X
end Go.Vm
namespace Go.Vm
namespace X
open W
def csz:CC->Nat
 | .seq a b | .cond _ a b=>Nat.succ (Nat.add (csz a) (csz b))
 | .block _ b | .loop b | .rangeF _ _ _ _ b=>Nat.succ (csz b)
 | _=>1
inductive An where
 | l (sl:List (Pl×Rep))
 | j (mb:List Pl) (sl:List (Pl×Rep))
 | f (it:ITE) (sl:List (Pl×Rep))
def ji5 (i:Nat):List (Nat×An)->Option An
 | []=>none
 | (k,a)::r=>bif Nat.beq k i then some a else ji5 i r
def anJ (o:Option An) (c:AC):AC:=match o with
 | some (.j mb sl)=>.join mb sl c
 | _=>c
def anL:Option An->List (Pl×Rep)
 | some (.l sl)=>sl
 | _=>[]
def mkA (hs:List (Nat×An)):CC->Nat->AC
 | .skip,_=>.skip
 | .region ops,i=>anJ (ji5 i hs) (.region ops)
 | .seq a b,i=>.seq (mkA hs a (Nat.succ i)) (mkA hs b (Nat.succ (Nat.add i (csz a))))
 | .cond c a b,i=>anJ (ji5 i hs) (.cond c (mkA hs a (Nat.succ i)) (mkA hs b (Nat.succ (Nat.add i (csz a)))))
 | .block id b,i=>.block id (mkA hs b (Nat.succ i))
 | .loop b,i=>.loop (anL (ji5 i hs)) (mkA hs b (Nat.succ i))
 | .rangeF x _ ps as b,i=>match ji5 i hs with
   | some (.f it sl)=>.rangeF x it (ps.headD 0) as sl (mkA hs b (Nat.succ i))
   | _=>.bad
 | .exit id,_=>.exit id
 | .ret,_=>.ret
 | .bad,_=>.bad
def dN (c:CFn) (hs:List (Nat×An)) (h:Hint):Fx:=⟨c.nt,c.res,mkA hs c.body 0,h⟩
end X
end Go.Vm
namespace Go.Vm
namespace X
open W
variable {B:Base} {memo:kT} {prog:Tr CFn}
def jjr:List (FuncId×Fx)->FuncId->Option Fx
 | [],_=>none
 | x::r,f=>bif Nat.beq x.1 f then some x.2 else jjr r f
theorem jtr:∀ {C:List (FuncId×Fx)} {f:FuncId} {x:Fx},jjr C f=some x->(f,x)∈C
 | [],f,t,h=>by cases h
 | t'::r,f,t,h=>by
   simp only[jjr] at h;cases hb:Nat.beq t'.1 f<;>rw[hb] at h<;>simp only[aH,aJ] at h
   ·exact bL _ (jtr h)
   ·cases h;rw[bQ,aQ] at hb;subst hb;exact bH ..
def hnd (N:Nat) (T:List TE) (C:List (FuncId×Fx)):Nat->CH
 | 0=>jh3 T noC
 | d+1=>jh3 T (jo8 N (jjr C) (hnd N T C d))
def T8 (memo:kT) (prog:Tr CFn) (C:List (FuncId×Fx)):Prop:=∀x∈C,(∀vs,memo x.1 vs=none)/\prog.get x.1=some x.2.cfn
def fU (B:Base) (memo:kT) (prog:Tr CFn) (m:Nat) (T:List TE):Prop:=∀t∈T,∀n,m<=n->t.OK B (pD B memo prog n)
theorem j07 {T:List TE} {C:List (FuncId×Fx)} {m:Nat} (hT:fU B memo prog m T) (hC:T8 memo prog C):∀d n,m+d<=n->xV B (pD B memo prog n) (hnd fuel T C d)
 | 0,n,h=>jrg (λt ht=>hT t ht n (by omega)) j2s
 | d+1,n+1,h=>jrg (λt ht=>hT t ht _ (by omega)) (j1k (j07 hT hC d n (by omega)) λf x hx vs H nx ro=>by
    obtain⟨h1,h2⟩:=hC _ (jtr hx);simp only[pD,h1 vs,h2])
theorem dP {T:List TE} {C:List (FuncId×Fx)} {m d:Nat} (hT:fU B memo prog m T) (hC:T8 memo prog C) {G:dT} (hG:GRel B nu0 G) {f:FuncId} {x:Fx} (hx:(∀vs,memo f vs=none)/\prog.get f=some x.cfn) {ins outs:List Rep}
  {run:iX ins->Option (iX outs)} (hr:∀a,eJ fuel (hnd fuel T C d) G x ins outs a=run a):fU B memo prog (m+d+1) [⟨f,ins,outs,run⟩]:=by
 intro t ht n hn;rw[cD.1 ht]
 match n,hn with
 | n+1,hn=>
   have h1:=j4d (j07 hT hC d n (by omega)) hG (x:=x) (ins:=ins) (outs:=outs) (f:=f) (call':=pD B memo prog (n+1)) (λvs H nx ro=>by simp only[pD,hx.1 vs,hx.2]);have e:run=eJ fuel (hnd fuel T C d) G x ins outs:=funext λa=>(hr a).symm
   rw[e];exact h1
theorem dK {m:Nat}:fU B memo prog m []:=λt ht=>by cases ht
theorem bS {m m':Nat} {T:List TE} (h:fU B memo prog m T) (hm:m<=m'):fU B memo prog m' T:=λt ht n hn=>h t ht n (by omega)
theorem jnu {F:cE}:∀(r:Rep),r.owns=false->∀(x:r.den) (l:List AV) (E:List Ent),o8 F r x l E->E=[]
 | .d t,_,x,l,E,⟨_,_,h⟩=>h
 | .own t,h,x,l,E,_=>by cases h
 | .ownc t,h,x,l,E,_=>by cases h
 | .ownx t,h,x,l,E,_=>by cases h
 | .aw t,h,x,l,E,_=>by cases h
 | .mp k v,h,x,l,E,_=>by cases h
 | .p a b,h,x,l,E,⟨l1,l2,E1,E2,e1,e2,h1,h2⟩=>by
   simp only[Rep.owns,yS] at h;rw[e2,jnu a h.1 _ _ _ h1,jnu b h.2 _ _ _ h2];rfl
 | .u,_,x,l,E,h=>h.2
 | .err,_,x,l,E,⟨_,_,_,h⟩=>h
 | .fn f,_,x,l,E,h=>h.2
 | .nl,_,x,l,E,h=>h.2
 | .dn t,_,x,l,E,⟨_,_,_,_,h⟩=>h
 | .dx t,_,x,l,E,⟨_,_,_,_,h⟩=>h
 | .sf f,_,x,l,E,h=>h.2
theorem jx0 {F:cE} {r:Rep} (h:r.owns=false) {x:r.den} {v:AV} {E:List Ent} (hr:mZ F r x v E):E=[]:=by
 unfold mZ at hr;cases ha:r.agg with
 | true=>
   rw[ha] at hr;obtain⟨m,_,hr⟩:=hr;exact jnu r h _ _ _ hr
 | false=>
   rw[ha] at hr;exact jnu r h _ _ _ hr
theorem jx2 {F:cE}:∀ {l:List Rep},l.any Rep.owns=false->∀ {x:iX l} {vs:List AV} {E:List Ent},vA F l x vs E->E=[]
 | [],_,x,vs,E,h=>h.2
 | [r],hr,x,vs,E,⟨v,e1,h⟩=>by
   simp only[qin,List.any_nil,qhc] at hr;exact jx0 hr h
 | r::r'::l,hr,x,vs,E,⟨v,vs',E1,E2,e1,e2,h1,h2⟩=>by
   simp only[qin,yS] at hr;rw[e2,jx0 hr.1 h1,jx2 (l:=r'::l) (by simp[qin,hr.2.1,hr.2.2]) h2];rfl
theorem oZ {σ β:Type} {step:(σ->Option β)->σ->Option β} (Inv:σ->Prop) (m:σ->Nat) (R:σ->Option β) (h:∀s rec,Inv s->(∀s',Inv s'->m s'<m s->rec s'=R s')->step rec s=R s):∀n s,Inv s->m s<n->dW step n s=R s
 | 0,s,_,hm=>absurd hm (qh4 _)
 | n+1,s,hi,hm=>h s _ hi λs' h1 h2=>oZ Inv m R h n s' h1 (by omega)
end X
end Go.Vm
