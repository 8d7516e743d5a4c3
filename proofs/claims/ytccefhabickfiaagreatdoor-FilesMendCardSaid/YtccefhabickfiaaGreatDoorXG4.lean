/- Parts of the proof. -/
import Derived.Test.YtccefhabickfiaaGreatDoorXG3
set_option linter.unusedSimpArgs false
set_option linter.defProp false
set_option linter.unusedVariables false
namespace Go.Vm
namespace X
open W
variable {B:Base} {ro:Nat} {e:Env} {c:Cnv} {S:St} {tm:Tr AV} {H:Tr Blk} {nx:Nat} {ν:Nm} {F:aQ} {M R:List Ent}
inductive Rep where
 | d (t:Ty)
 | own (t:Ty)
 | ownc (t:Ty)
 | ownx (t:Ty)
 | p (a b:Rep)
 | u
 | err
 | fn (f:FuncId)
 | nl
 | dn (t:Ty)
 | aw (t:Ty)
 | sf (f:FuncId)
 | mp (k v:Ty)
 | dx (t:Ty)
@[reducible] def Rep.den:Rep->Type
  | .d t=>t.den
  | .own t=>List t.den
  | .ownc t=>List t.den×Nat
  | .ownx t=>List t.den
  | .p a b=>a.den×b.den
  | .u=>Unit
  | .err=>Bool
  | .fn _=>Unit
  | .nl=>Unit
  | .dn t=>List t.den
  | .aw t=>List t.den×Option Nat
  | .sf _=>Unit
  | .mp k v=>List (k.den×v.den)
  | .dx t=>List t.den
def Rep.size:Rep->Nat
 | .d t=>t.size
 | .p a b=>a.size+b.size
 | .u=>0
 | _=>1
def Rep.agg:Rep->Bool
 | .d t=>t.agg
 | .p _ _ | .u=>true
 | _=>false
def oV (F:aQ) (t:Ty) (L:List t.den) (cap:Option Nat) (v:AV) (E:List Ent):Prop:=∃x:Nat×AV,x.2=v/\dR (λ_=>x) F 0 (.arr t L cap) E
def oW (F:aQ):(r:Rep)->r.den->List AV->List Ent->Prop
 | .d t,x,l,E=>t.ok=true/\aX F t x l/\E=[]
 | .own t,x,l,E=>∃v,l=[v]/\oV F t x none v E
 | .ownc t,x,l,E=>∃v,l=[v]/\oV F t x.1 (some x.2) v E
 | .ownx t,x,l,E=>∃v,l=[v]/\oV F t x (some (List.length (α:=t.den) x)) v E
 | .p a b,x,l,E=>∃l1 l2 E1 E2,l=l1++l2/\E=E2++E1/\oW F a x.1 l1 E1/\oW F b x.2 l2 E2
 | .u,_,l,E=>l=[]/\E=[]
 | .err,x,l,E=>∃v,l=[v]/\aJ (λ_=>(0,.nils)) [] (.err x) v/\E=[]
 | .fn f,_,l,E=>l=[.fn (.func f) [] []]/\E=[]
 | .nl,_,l,E=>l=[.nils]/\E=[]
 | .aw t,x,l,E=>∃v,l=[v]/\oV F t x.1 x.2 v E
 | .sf f,_,l,E=>(∃b,l=[.ptr b 0]/\(b,HB.cells [.fn (.func f) [] [.ptr b 0]])∈F)/\E=[]
 | .dx t,x,l,E=>∃v,l=[v]/\t.size≠0/\SlX F t.size (bO (aX F t)) x v/\E=[]
 | .mp k v,x,l,E=>∃b m,l=[.mp b]/\E=[⟨b,true,.mp m⟩]/\rR F k v x m
 | .dn t,x,l,E=>∃v,l=[v]/\t.size≠0/\Pe F t.size (bO (aX F t)) x v/\E=[]
def gC (F:aQ) (r:Rep) (x:r.den) (v:AV) (E:List Ent):Prop:=bif r.agg then ∃m,v=.agg m/\oW F r x m E else oW F r x [v] E
def zI {F F':aQ} (hF:∀x∈F,x∈F'):∀(r:Rep) (x:r.den) (l:List AV) (E:List Ent),oW F r x l E->oW F' r x l E
 | .d t,x,l,E,⟨h1,h2,h3⟩=>⟨h1,gY hF t _ _ h2,h3⟩
 | .own t,x,l,E,⟨v,e,y,h1,h2⟩=>⟨v,e,y,h1,uI hF h2⟩
 | .ownc t,x,l,E,⟨v,e,y,h1,h2⟩=>⟨v,e,y,h1,uI hF h2⟩
 | .ownx t,x,l,E,⟨v,e,y,h1,h2⟩=>⟨v,e,y,h1,uI hF h2⟩
 | .p a b,x,l,E,⟨l1,l2,E1,E2,e1,e2,h1,h2⟩=>⟨l1,l2,E1,E2,e1,e2,zI hF a _ _ _ h1,zI hF b _ _ _ h2⟩
 | .u,x,l,E,h=>h
 | .err,x,l,E,h=>h
 | .fn f,x,l,E,h=>h
 | .nl,x,l,E,h=>h
 | .sf f,x,l,E,⟨⟨b,h1,h2⟩,h3⟩=>⟨⟨b,h1,hF _ h2⟩,h3⟩
 | .aw t,x,l,E,⟨v,e,y,h1,h2⟩=>⟨v,e,y,h1,uI hF h2⟩
 | .mp k v,x,l,E,⟨b,m,e1,e2,h⟩=>⟨b,m,e1,e2,Oq hF h⟩
 | .dx t,x,l,E,⟨v,e,h0,h1,h2⟩=>⟨v,e,h0,Ya hF (λ_ _=>lB (gY hF t)) h1,h2⟩
 | .dn t,x,l,E,⟨v,e,h0,h1,h2⟩=>⟨v,e,h0,jgg hF (λ_ _=>lB (gY hF t)) h1,h2⟩
def mN (cap:Option Nat) (n:Nat):Bool:=match cap with
 | some c=>c.beq n
 | none=>false
def xA (t:Ty) (mv:bE):SV->Option (Option Bool×bE×List t.den×Option Nat)
 | .own b=>match cL mv b with
   | some (.arr t' L cap)=>if h:t'=t then some (none,eM mv b,h▸L,cap) else none
   | _=>none
 | .view b o n cp z=>match cL mv b with
   | some (.arr t' L cap)=>bif z.beq t.size then(if h:t'=t then some (some (o.beq 0),eM mv b,(h▸L:List t.den).take n,cp) else none) else none
   | _=>none
 | .nils=>bif t.size.beq 0 then none else some (none,mv,[],some 0)
 | _=>none
def jY:(r:Rep)->bE->List SV->Option (Option Bool×bE×r.den)
 | .d t,mv,l=>bif t.ok then(match xE mv l with
   | some (mv,l)=>match jE qW t l with
     | some x=>some (none,mv,x)
     | none=>none
   | none=>none) else none
 | .own t,mv,l=>match l with
   | [s]=>match xA t mv s with
     | some (c,mv,L,cap)=>some (c,mv,L)
     | none=>none
   | _=>none
 | .ownc t,mv,l=>match l with
   | [s]=>match xA t mv s with
     | some (c,mv,L,cap)=>some (wS c (some cap.isSome),mv,(L,cap.getD 0))
     | none=>none
   | _=>none
 | .ownx t,mv,l=>match l with
   | [s]=>match xA t mv s with
     | some (c,mv,L,cap)=>some (wS c (some (mN cap L.length)),mv,L)
     | none=>none
   | _=>none
 | .p a b,mv,l=>match jY a mv (l.take a.size) with
   | some (c1,mv,x)=>match jY b mv (l.drop a.size) with
     | some (c2,mv,y)=>some (wS c1 c2,mv,(x,y))
     | none=>none
   | none=>none
 | .u,mv,l=>match l with
   | []=>some (none,mv,())
   | _=>none
 | .err,mv,l=>match l with
   | [.err b]=>some (none,mv,b)
   | [.nili]=>some (none,mv,true)
   | _=>none
 | .fn f,mv,l=>match l with
   | [.fn f' [] []]=>bif Nat.beq f' f then some (none,mv,()) else none
   | _=>none
 | .nl,mv,l=>match l with
   | [.nils]=>some (none,mv,())
   | _=>none
 | .dn _,_,_=>none
 | .sf _,_,_=>none
 | .dx t,mv,l=>match l with
   | [.own b]=>match cL mv b with
     | some (.arr t' L cap)=>if h:t'=t then some (some (mN cap (List.length (α:=t'.den) L)),eM mv b,h▸L) else none
     | _=>none
   | [.fzx t' L]=>if h:t'=t then some (none,mv,h▸L) else none
   | _=>none
 | .mp k v,mv,l=>match l with
   | [.mp b]=>match cL mv b with
     | some (.mp k' v' L)=>if h1:k'=k then(if h2:v'=v then some (none,eM mv b,h1▸(h2▸L:List (k'.den×v.den))) else none) else none
     | _=>none
   | _=>none
 | .aw t,mv,l=>match l with
   | [.own b]=>match xA t mv (.own b) with
     | some (c,mv,L,cap)=>some (c,mv,(L,cap))
     | none=>none
   | _=>none
def jjj (r:Rep) (mv:bE):SV->Option (Option Bool×bE×r.den)
 | .agg l=>jY r mv l
 | _=>none
def Qi (r:Rep) (mv:bE) (s:SV):Option (Option Bool×bE×r.den):=bif r.agg then jjj r mv s else jY r mv [s]
def jjk (n:Nat) (t:Ty) (mv:bE):SV->Option (Option Bool×bE×List t.den)
 | .ag n' t' L=>bif n'.beq n&&t.ok then(if h:t'=t then some (none,mv,h▸L) else none) else none
 | .agg l=>jY (.d (.arr n t)) mv l
 | _=>none
def Jm (r:Rep) (mv:bE) (s:SV):Option (Option Bool×bE×r.den):=
 match r with
 | .d t=>match t with
   | .arr n t=>jjk n t mv s
   | t=>Qi (.d t) mv s
 | r=>Qi r mv s
def Cnv.park (c:Cnv) (E:List Ent):Cnv:={ c with P:=E++c.P }
def fW {α:Type} (A E X:List α):(A++(E++X)).Perm (E++(A++X)):=by
 rw[<-cD,<-cD];exact vP _ Bb
def j4z (c:Cnv):c.park []=c:=rfl
def ConX.park (h:ConX B ro e c S tm H nx ν F M R) {b:Nat} {sb:SB} (hb:cL S.mv b=some sb):∃E M',dR ν F b sb E/\(∀x∈E,x.w=true)/\ConX B ro e (c.park E) { S with mv:=eM S.mv b } tm H nx ν F M' R:=by
 obtain⟨E,h1,h2,_,_,_,M',hp,hm,hw⟩:=h.own hb;have hk:=h.hk.perm hp;refine⟨E,M',h1,λx hx=>(h2 x hx).1,hk.perm ?_,h.fr,h.ov,hm,hw,h.mc,h.fz,h.gl⟩;have e1:(c.park E).O0=E++c.O0:=by simp[Cnv.O0,Cnv.park]
 rw[e1];have p1:=fW R E c.O0;have p2:=fW c.Mc E (R++c.O0);have p3:=fW M' E (c.Mc++(R++c.O0));exact((dW M' ((dW c.Mc p1).trans p2))).trans p3
def jt6 {b:Nat} {t:Ty} {L:List t.den} {cap cap':Option Nat} {E:List Ent} (h:dR ν F b (.arr t L cap) E) (hc:∀m,cap'=some m->cap=some m):dR (λ_=>ν b) F 0 (.arr t L cap') E:=by
 have hd:∀ {sz:Option Nat},rQ (ν b) t.size L.length cap sz->rQ (ν b) t.size L.length cap' sz:=by
  intro sz h;rcases h with⟨h1,h2,h3,h4⟩ | ⟨c',n,h1,h2,h3,h5,h6⟩
  ·refine .inl ⟨h1,h2,h3,?_⟩;cases cap' with
   | none=>exact .inl rfl
   | some m=>
     have:=hc m rfl;rcases h4 with h4 | h4
     ·rw[h4] at this;cases this
     ·rw[h4] at this;cases this;exact .inr rfl
  ·exact .inr ⟨c',n,h1,h2,h3,h5,λm hm=>h6 m (hc m hm)⟩
 obtain⟨h0,h1⟩:=h;refine⟨h0,h1.imp (fun⟨a,b⟩=>⟨hd a,b⟩) fun⟨w,m,e1,h2,h3,h4⟩=>⟨w,m,e1,hd h2,h3,h4⟩⟩
def Jk (h:ConX B ro e c S tm H nx ν F M R) {t:Ty} {s:SV} {cc:Option Bool} {mv:bE} {L:List t.den} {cap:Option Nat} (hs:xA t S.mv s=some (cc,mv,L,cap)) (hc:dT cc=true) {v:AV} (hv:aJ ν F s v):
  ∃E M',ConX B ro e (c.park E) { S with mv:=mv } tm H nx ν F M' R/\(∀x∈E,x.w=true)/\∀cap',(∀m,cap'=some m->cap=some m)->oV F t L cap' v E:=by
 unfold xA at hs;split at hs<;>try (cases hs;done)
 ·rename_i b;split at hs<;>try (cases hs;done)
  rename_i t' L' cap' hb;split at hs<;>try (cases hs;done)
  rename_i ht;subst ht;cases hs;obtain⟨E,M',h1,h2,h3⟩:=h.park hb;exact⟨E,M',h3,h2,λcp hcp=>⟨ν b,hv.1.symm,jt6 h1 hcp⟩⟩
 ·rename_i b o n cp z;split at hs<;>try (cases hs;done)
  rename_i t' L' cap' hb;obtain⟨hz,hs2⟩:=aR hs;rw[aL,aH] at hz;split at hs2<;>try (cases hs2;done)
  rename_i ht;subst ht;subst hz;cases hs2;simp only[dT,aL,aH] at hc;subst hc;obtain⟨E,M',⟨h0,h1⟩,h2,h3⟩:=h.park hb;refine⟨E,M',h3,h2,λcq hcq=>?_⟩;rcases hv with⟨rfl,rfl,hcap,hnil⟩ | ⟨c',rfl,k1,k2,len,cp',k3,k4,k5⟩
  ·rcases h1 with⟨hd,rfl⟩ | ⟨w,m,rfl,hd,hm,ha⟩
   ·refine⟨(0,.nils),rfl,h0,.inl ⟨.inl ⟨rfl,rfl,by simp,?_⟩,rfl⟩⟩;cases cq with
    | none=>exact .inl rfl
    | some y=>
      have:=hcq y rfl;rcases hcap with hcap | hcap<;>rw[hcap] at this<;>cases this
      exact .inr rfl
   ·rcases hd with⟨_,e1,_⟩ | ⟨_,_,e1,_⟩
    ·cases e1
    ·rw[hnil] at e1;cases e1
  ·rcases h1 with⟨hd,rfl⟩ | ⟨w,m,rfl,hd,hm,ha⟩
   ·rcases hd with⟨e1,_⟩ | ⟨_,_,_,e1,_⟩
    ·rw[k3] at e1;cases e1
    ·cases e1
   ·rcases hd with⟨e1,_⟩ | ⟨c2,n',e1,e2,hle,g3,g4⟩
    ·rw[k3] at e1;cases e1
    ·cases e2;rw[k3] at e1;cases e1;have hnL:n<=L'.length:=by omega
     have hnz:n*t'.size<=L'.length*t'.size:=iB _ hnL;have hlt:(L'.take n).length=n:=by simp;omega
     refine⟨((ν b).1,.sl (ν b).1 0 n c' t'.size),by rw[sR],h0,.inr ⟨w,m,rfl,.inr ⟨c',m.length,by rw[hlt],rfl,by rw[hlt];omega,λy hy=>?_,λy hy=>k1 y (hcq y hy)⟩,?_,ha⟩⟩
     ·refine⟨?_,by rw[hlt];exact k2 y hy⟩;rcases k5 y hy with h7 | ⟨q,hq,h7⟩
      ·have:y*t'.size<=L'.length*t'.size:=iB _ (by omega);omega
      ·have:y*t'.size<=q*t'.size:=iB _ (by omega);have:=(g3 q hq).1;omega
     ·have:=uM (cV t') n hm;rw[sU,oL hnz] at this;rw[hlt];exact this
 ·obtain⟨hz,h2⟩:=tU hs;rw[aL,eH] at hz;cases h2;simp only[aJ] at hv;subst hv;refine⟨[],M,h,λ_ h=>(by cases h),λcp hcp=>⟨(0,.nils),rfl,hz,.inl ⟨.inl ⟨rfl,rfl,rfl,?_⟩,rfl⟩⟩⟩;cases cp with
  | none=>exact .inl rfl
  | some m=>have:=hcp m rfl;cases this;exact .inr rfl
def zZ:∀(r:Rep) {c:Cnv} {S:St} {F:aQ} {M R:List Ent} (h:ConX B ro e c S tm H nx ν F M R) {l:List SV} {cc:Option Bool} {mv:bE} {x:r.den} (hs:jY r S.mv l=some (cc,mv,x)) (hc:dT cc=true) {m:List AV} (hm:bC ν F l m),
  ∃E F' M' R',ConX B ro e (c.park E) { S with mv:=mv } tm H nx ν F' M' R'/\(∀x∈E,x.w=true)/\(∀x∈F,x∈F')/\oW F' r x m E
 | .d t,c,S,F,M,R,h,l,cc,mv,x,hs,hc,m,hm=>by
   simp only[jY] at hs;obtain⟨ht,hs⟩:=aR hs;split at hs<;>try (cases hs;done)
   rename_i mv' l' hf;split at hs<;>try (cases hs;done)
   rename_i x' hx;cases hs;obtain⟨F',M',R',h1,h2,h3⟩:=Jt h l hf;exact⟨[],F',M',R',h1,λ_ h=>(by cases h),h2,ht,lL qB t hx (h3 m hm),rfl⟩
 | .own t,c,S,F,M,R,h,l,cc,mv,x,hs,hc,m,hm=>by
   simp only[jY] at hs;split at hs<;>try (cases hs;done)
   split at hs<;>try (cases hs;done)
   rename_i s cq mv' L cap hs';cases hs;obtain⟨v,_,rfl,hv,rfl⟩:=hm;obtain⟨E,M',h1,h2,h3⟩:=Jk h hs' hc hv;exact⟨E,F,M',R,h1,h2,λ_ h=>h,v,rfl,h3 none λ_ h=>(by cases h)⟩
 | .ownc t,c,S,F,M,R,h,l,cc,mv,x,hs,hc,m,hm=>by
   simp only[jY] at hs;split at hs<;>try (cases hs;done)
   split at hs<;>try (cases hs;done)
   rename_i s cq mv' L cap hs';cases hs;rw[Ks] at hc;obtain⟨k,rfl⟩:=lN.1 (show cap.isSome=true from hc.2);obtain⟨v,_,rfl,hv,rfl⟩:=hm;obtain⟨E,M',h1,h2,h3⟩:=Jk h hs' hc.1 hv;exact⟨E,F,M',R,h1,h2,λ_ h=>h,v,rfl,h3 _ λ_ h=>h⟩
 | .ownx t,c,S,F,M,R,h,l,cc,mv,x,hs,hc,m,hm=>by
   simp only[jY] at hs;split at hs<;>try (cases hs;done)
   split at hs<;>try (cases hs;done)
   rename_i s cq mv' L cap hs';cases hs;rw[Ks] at hc;obtain⟨hcq,hc⟩:=hc;have hc:mN _ _=true:=hc;unfold mN at hc;split at hc<;>try (cases hc;done)
   rename_i k;rw[aL,aH] at hc;subst hc;obtain⟨v,_,rfl,hv,rfl⟩:=hm;obtain⟨E,M',h1,h2,h3⟩:=Jk h hs' hcq hv;exact⟨E,F,M',R,h1,h2,λ_ h=>h,v,rfl,h3 _ λ_ h=>h⟩
 | .p a b,c,S,F,M,R,h,l,cc,mv,x,hs,hc,m,hm=>by
   simp only[jY] at hs;split at hs<;>try (cases hs;done)
   rename_i c1 mv1 x1 h1;split at hs<;>try (cases hs;done)
   rename_i c2 mv2 x2 h2;cases hs;rw[Ks] at hc;obtain⟨E1,F1,M1,R1,k1,k2,k3,k4⟩:=zZ a h h1 hc.1 (oX a.size hm);obtain⟨E2,F2,M2,R2,j1,j2,j3,j4⟩:=zZ b (S:={ S with mv:=mv1 }) k1 h2 hc.2 (jT k3 _ _ (nY a.size hm));refine⟨E2++E1,F2,M2,R2,?_,λx hx=>?_,λx hx=>j3 x (k3 x hx),?_⟩
   ·have:(c.park E1).park E2=c.park (E2++E1):=by simp[Cnv.park]
    rw[<-this];exact j1
   ·rcases aZ.1 hx with hx | hx
    ·exact j2 x hx
    ·exact k2 x hx
   ·exact⟨m.take a.size,m.drop a.size,E1,E2,by rw[Bi],rfl,zI j3 a _ _ _ k4,j4⟩
 | .u,c,S,F,M,R,h,l,cc,mv,x,hs,hc,m,hm=>by
   simp only[jY] at hs;split at hs<;>try (cases hs;done)
   cases hs;exact⟨[],F,M,R,h,λ_ h=>(by cases h),λ_ h=>h,hm,rfl⟩
 | .err,c,S,F,M,R,h,l,cc,mv,x,hs,hc,m,hm=>by
   simp only[jY] at hs;split at hs<;>try (cases hs;done)
   ·cases hs;obtain⟨v,_,rfl,hv,rfl⟩:=hm;exact⟨[],F,M,R,h,λ_ h=>(by cases h),λ_ h=>h,v,rfl,hv,rfl⟩
   ·cases hs;obtain⟨v,_,rfl,hv,rfl⟩:=hm;exact⟨[],F,M,R,h,λ_ h=>(by cases h),λ_ h=>h,v,rfl,.inl ⟨rfl,hv⟩,rfl⟩
 | .fn f,c,S,F,M,R,h,l,cc,mv,x,hs,hc,m,hm=>by
   simp only[jY] at hs;split at hs<;>try (cases hs;done)
   obtain⟨hf,hs⟩:=aR hs;rw[aL,aH] at hf;subst hf;cases hs;obtain⟨v,_,rfl,⟨a',c',hv,h1,h2⟩,rfl⟩:=hm;simp only[bC] at h1 h2;subst h1;subst h2;exact⟨[],F,M,R,h,λ_ h=>(by cases h),λ_ h=>h,by rw[hv],rfl⟩
 | .nl,c,S,F,M,R,h,l,cc,mv,x,hs,hc,m,hm=>by
   simp only[jY] at hs;split at hs<;>try (cases hs;done)
   cases hs;obtain⟨v,_,rfl,hv,rfl⟩:=hm;have hv:v=AV.nils:=hv;exact⟨[],F,M,R,h,λ_ h=>(by cases h),λ_ h=>h,by rw[hv],rfl⟩
 | .aw t,c,S,F,M,R,h,l,cc,mv,x,hs,hc,m,hm=>by
   simp only[jY] at hs;split at hs<;>try (cases hs;done)
   split at hs<;>try (cases hs;done)
   rename_i b cq mv' L cap hs';cases hs;obtain⟨v,_,rfl,hv,rfl⟩:=hm;obtain⟨E,M',h1,h2,h3⟩:=Jk h hs' hc hv;exact⟨E,F,M',R,h1,h2,λ_ h=>h,v,rfl,h3 _ λ_ h=>h⟩
 | .dx t,c,S,F,M,R,h,l,cc,mv,x,hs,hc,m,hm=>by
   simp only[jY] at hs;split at hs<;>try (cases hs;done)
   ·split at hs<;>try (cases hs;done)
    rename_i b _ t' L cap hb;split at hs<;>try (cases hs;done)
    rename_i h1;subst h1;cases hs;obtain⟨u,_,rfl,hv,rfl⟩:=hm;have hc:mN _ _=true:=hc;unfold mN at hc;split at hc<;>try (cases hc;done)
    rename_i k;rw[aL,aH] at hc;subst hc;obtain⟨E,hE,_,_,⟨M1,hM⟩,_⟩:=h.own hb;refine⟨[],_,M1,_,hM,λ_ h=>(by cases h),λx hx=>aZ.2 (.inr hx),u,rfl,hE.1,?_,rfl⟩;show SlX (lW E++F) t'.size (bO (aX (lW E++F) t')) L u;obtain⟨rfl,_⟩:=hv;obtain⟨h0,hE⟩:=hE;rcases hE with⟨hd,rfl⟩ | ⟨w,mm,rfl,hd,hmm,ha⟩
    ·rcases hd with⟨e1,_,e2,_⟩ | ⟨_,_,_,e1,_⟩
     ·exact .inl ⟨oK e2,e1⟩
     ·cases e1
    ·rcases hd with⟨_,e1,_⟩ | ⟨c',n',e1,e2,hle,g3,g4⟩
     ·cases e1
     ·cases e2;have:=g4 _ rfl;subst this;refine .inr ⟨_,0,mm,e1,aZ.2 (.inl (bF.2 rfl)),by omega,?_⟩;rw[fZ];exact lB (gY (λy hy=>aZ.2 (.inr hy)) _) hmm
   ·split at hs<;>try (cases hs;done)
    rename_i h1;subst h1;cases hs;obtain⟨u,_,rfl,hv,rfl⟩:=hm;exact⟨[],F,M,R,h,λ_ h=>(by cases h),λ_ h=>h,u,rfl,hv.1,hv.2,rfl⟩
 | .mp k v,c,S,F,M,R,h,l,cc,mv,x,hs,hc,m,hm=>by
   simp only[jY] at hs;split at hs<;>try (cases hs;done)
   split at hs<;>try (cases hs;done)
   rename_i b _ k' v' L hb;split at hs<;>try (cases hs;done)
   rename_i h1;split at hs<;>try (cases hs;done)
   rename_i h2;subst h1;subst h2;cases hs;obtain⟨u,_,rfl,hv,rfl⟩:=hm;simp only[aJ] at hv;subst hv;obtain⟨E,M',⟨w,mm,rfl,hmm⟩,hw,hC⟩:=h.park hb;have ew:=hw _ (bF.2 rfl);simp only at ew;subst ew;exact⟨_,F,M',R,hC,hw,λ_ h=>h,_,mm,rfl,rfl,hmm⟩
 | .dn t,c,S,F,M,R,h,l,cc,mv,x,hs,hc,m,hm=>by cases hs
 | .sf f,c,S,F,M,R,h,l,cc,mv,x,hs,hc,m,hm=>by cases hs
end X
end Go.Vm
namespace Go.Vm
namespace X
open W
variable {B:Base} {ro:Nat} {e:Env} {c:Cnv} {S:St} {tm:Tr AV} {H:Tr Blk} {nx:Nat} {ν:Nm} {F:aQ} {M R:List Ent}
def Dz (t:Ty) (L:List t.den) (cap:Option Nat) (e:Env) (S:St):Option (List SV×St):=bif fresh e S then some ([.own S.nc],kT S (.arr t L cap)) else none
def xH:(r:Rep)->r.den->Env->St->Option (List SV×St)
 | .d t,x,e,S=>some (qI t x,S)
 | .own t,x,e,S=>Dz t x none e S
 | .ownc t,x,e,S=>Dz t x.1 (some x.2) e S
 | .ownx t,x,e,S=>Dz t x (some (List.length (α:=t.den) x)) e S
 | .p a b,x,e,S=>match xH a x.1 e S with
   | some (l1,S1)=>match xH b x.2 { e with ov:=l1++e.ov } S1 with
     | some (l2,S2)=>some (l1++l2,S2)
     | none=>none
   | none=>none
 | .u,_,e,S=>some ([],S)
 | .err,x,e,S=>some ([.err x],S)
 | .fn f,_,e,S=>some ([.fn f [] []],S)
 | .nl,_,e,S=>some ([.nils],S)
 | .aw t,x,e,S=>Dz t x.1 x.2 e S
 | .dn t,x,e,S=>some ([.fzn t x],S)
 | .sf f,_,e,S=>some ([.sptr f],S)
 | .dx t,x,e,S=>some ([.fzx t x],S)
 | .mp k v,x,e,S=>bif fresh e S then some ([.mp S.nc],kT S (.mp k v x)) else none
def Ra (r:Rep) (x:r.den) (e:Env) (S:St):Option (SV×St):=match r with
 | .d t=>some (qS t x,S)
 | r=>match xH r x e S with
   | some (l,S')=>bif r.agg then some (.agg l,S') else match l with
     | [s]=>some (s,S')
     | _=>none
   | none=>none
def ConX.reP (h:ConX B ro e c S tm H nx ν F M R) {P':List Ent} (hp:P'.Perm c.P):ConX B ro e { c with P:=P' } S tm H nx ν F M R:=
 ⟨h.hk.perm (dW _ (dW _ (dW _ (vP _ hp)))),h.fr,h.ov,h.mv,h.wr,h.mc,h.fz,h.gl⟩
def Ie:∀ {l l':List SV} {m m':List AV},l.length=m.length->bC ν F (l++l') (m++m')->bC ν F l m/\bC ν F l' m'
 | [],l',[],m',_,h=>⟨rfl,h⟩
 | a::l,l',b::m,m',hl,⟨v,m1,e1,h1,h2⟩=>by
   simp only[eW,kX] at e1;obtain⟨rfl,rfl⟩:=e1;obtain⟨k1,k2⟩:=Ie (by simpa using hl) h2;exact⟨⟨b,m,rfl,h1,k1⟩,k2⟩
def Nz {E:List Ent} (h:ConX B ro e (c.park E) S tm H nx ν F M R) {b:Nat} {sb:SB} (hb:dR ν F b sb E) (hw:∀x∈E,x.w=true):ConX B ro e c { S with mv:=(b,sb)::S.mv } tm H nx ν F (E++M) R:=by
 refine⟨?_,h.fr,h.ov,⟨E,M,rfl,hb,h.mv⟩,λy hy=>?_,h.mc,h.fz,h.gl⟩
 ·refine h.hk.perm ?_;have e1:(c.park E).O0=E++c.O0:=by simp[Cnv.O0,Cnv.park]
  rw[e1];have p1:=fW R E c.O0;have p2:=fW c.Mc E (R++c.O0);have p3:=fW M E (c.Mc++(R++c.O0));rw[cD];exact((dW M ((dW c.Mc p1).trans p2)).trans p3).symm
 ·rcases aZ.1 hy with h1 | h1
  ·exact hw y h1
  ·exact h.wr y h1
def kae {E:List Ent} (h:ConX B ro e (c.park E) S tm H nx ν F M R) {t:Ty} {L:List t.den} {cap:Option Nat} {v:AV} (hE:oV F t L cap v E) (hw:∀x∈E,x.w=true) (hf:fresh e S=true):
  ∃ν' M',ConX B ro e c (kT S (.arr t L cap)) tm H nx ν' F M' R/\aJ ν' F (.own S.nc) v/\∀b,b≠S.nc->ν' b=ν b:=by
 obtain⟨x,rfl,hx⟩:=hE;have h':=h.name hf x;refine⟨ν.upd S.nc x,E++M,⟨?_,h'.fr,h'.ov,⟨E,M,rfl,?_,h'.mv⟩,λy hy=>?_,h'.mc,h'.fz,h'.gl⟩,?_,λb hb=>mL (by rw[aL];simpa using hb)⟩
 ·refine h.hk.perm ?_;have e1:(c.park E).O0=E++c.O0:=by simp[Cnv.O0,Cnv.park]
  rw[e1];have p1:=fW R E c.O0;have p2:=fW c.Mc E (R++c.O0);have p3:=fW M E (c.Mc++(R++c.O0));rw[cD];exact((dW M ((dW c.Mc p1).trans p2)).trans p3).symm
 ·show dR _ F S.nc _ E;obtain⟨h0,h1⟩:=hx;exact⟨h0,by rw[eI];exact h1⟩
 ·rcases aZ.1 hy with h1 | h1
  ·exact hw y h1
  ·exact h.wr y h1
 ·obtain⟨h0,h1⟩:=hx;refine⟨by rw[eI],?_⟩;rcases h1 with⟨hd,_⟩ | ⟨w,m,_,hd,_⟩
  ·rcases hd with⟨h2,_⟩ | ⟨_,_,h2,_⟩<;>rw[h2]<;>rfl
  ·rcases hd with⟨h2,_⟩ | ⟨_,_,h2,_⟩<;>rw[h2]<;>rfl
def Qz {E:List Ent} (h:ConX B ro e (c.park E) S tm H nx ν F M R) {t:Ty} {L:List t.den} {cap:Option Nat} {v:AV} (hE:oV F t L cap v E) (hw:∀x∈E,x.w=true) {l:List SV} {S':St} (hs:Dz t L cap e S=some (l,S')):
  ∃ν' M',ConX B ro e c S' tm H nx ν' F M' R/\bC ν' F l [v]/\(∀b,b<S.nc->ν' b=ν b)/\S'.fr=S.fr/\S.nc<=S'.nc:=by
 unfold Dz at hs;obtain⟨hf,h2⟩:=aR hs;cases h2;obtain⟨ν',M',h1,h2,h3⟩:=kae h hE hw hf;exact⟨ν',M',h1,⟨v,[],rfl,h2,rfl⟩,λb hb=>h3 b (by omega),rfl,Tx _⟩
def Jw:∀(r:Rep) {e:Env} {c:Cnv} {S:St} {ν:Nm} {M:List Ent} {E:List Ent} (h:ConX B ro e (c.park E) S tm H nx ν F M R) {x:r.den} {m:List AV} (hr:oW F r x m E) (hw:∀x∈E,x.w=true) {l:List SV} {S':St} (hs:xH r x e S=some (l,S')),
  ∃ν' M',ConX B ro e c S' tm H nx ν' F M' R/\bC ν' F l m/\(∀b,b<S.nc->ν' b=ν b)/\S'.fr=S.fr/\S.nc<=S'.nc
 | .d t,e,c,S,ν,M,E,h,x,m,⟨ht,hr,hE⟩,hw,l,S',hs=>by
   subst hE;cases hs;exact⟨ν,M,h,uR t ht x m hr,λ_ _=>rfl,rfl,aU _⟩
 | .own t,e,c,S,ν,M,E,h,x,m,⟨v,hm,hr⟩,hw,l,S',hs=>by subst hm;exact Qz h hr hw hs
 | .ownc t,e,c,S,ν,M,E,h,x,m,⟨v,hm,hr⟩,hw,l,S',hs=>by subst hm;exact Qz h hr hw hs
 | .ownx t,e,c,S,ν,M,E,h,x,m,⟨v,hm,hr⟩,hw,l,S',hs=>by subst hm;exact Qz h hr hw hs
 | .p a b,e,c,S,ν,M,E,h,x,m,⟨m1,m2,E1,E2,e1,e2,h1,h2⟩,hw,l,S',hs=>by
   subst e1;subst e2;simp only[xH] at hs;split at hs<;>try (cases hs;done)
   rename_i l1 S1 hs1;split at hs<;>try (cases hs;done)
   rename_i l2 S2 hs2;cases hs;have h':ConX B ro e ((c.park E2).park E1) S tm H nx ν F M R:=by
    have:=h.reP (P':=E1++(E2++c.P)) (by
     show(E1++(E2++c.P)).Perm ((E2++E1)++c.P);rw[<-cD];exact vP _ Bb)
    exact this
   obtain⟨ν1,M1,k1,k2,k3,k4,k5⟩:=Jw a h' h1 (λx hx=>hw x (by simp[hx])) hs1;have h'':ConX B ro { e with ov:=l1++e.ov } (({ c with oa:=m1++c.oa }:Cnv).park E2) S1 tm H nx ν1 F M1 R:=
    ⟨k1.hk,k1.fr,nX k2 k1.ov,k1.mv,k1.wr,k1.mc,k1.fz,k1.gl⟩
   obtain⟨ν2,M2,j1,j2,j3,j4,j5⟩:=Jw b h'' h2 (λx hx=>hw x (by simp[hx])) hs2;obtain⟨q1,q2⟩:=Ie (jL k2) j1.ov;exact⟨ν2,M2,⟨j1.hk,j1.fr,q2,j1.mv,j1.wr,j1.mc,j1.fz,j1.gl⟩,nX q1 j2,λb hb=>by rw[j3 b (by omega),k3 b hb],j4.trans k4,by omega⟩
 | .dx t,e,c,S,ν,M,E,h,x,m,⟨v,hm,h0,hr,hE⟩,hw,l,S',hs=>by
   subst hm;subst hE;cases hs;exact⟨ν,M,h,⟨v,[],rfl,⟨h0,hr⟩,rfl⟩,λ_ _=>rfl,rfl,aU _⟩
 | .mp k v,e,c,S,ν,M,E,h,x,m,⟨b,mm,hm,hE,hr⟩,hw,l,S',hs=>by
   subst hm;subst hE;simp only[xH] at hs;obtain⟨hf,h2⟩:=aR hs;cases h2;have h':=h.name hf (b,.nils);have hC:=Nz (E:=[⟨b,true,.mp mm⟩]) (b:=S.nc) (sb:=.mp k v x) h' ⟨true,mm,by rw[eI],hr⟩ hw;exact⟨_,_,⟨hC.hk,hC.fr,hC.ov,hC.mv,hC.wr,hC.mc,hC.fz,hC.gl⟩,⟨_,[],rfl,by simp only[aJ,eI],rfl⟩,λb hb=>mL (by rw[aL];simp;omega),rfl,Tx _⟩
 | .u,e,c,S,ν,M,E,h,x,m,⟨hm,hE⟩,hw,l,S',hs=>by
   subst hm;subst hE;cases hs;exact⟨ν,M,h,rfl,λ_ _=>rfl,rfl,aU _⟩
 | .err,e,c,S,ν,M,E,h,x,m,⟨v,hm,hv,hE⟩,hw,l,S',hs=>by
   subst hm;subst hE;cases hs;exact⟨ν,M,h,⟨v,[],rfl,hv,rfl⟩,λ_ _=>rfl,rfl,aU _⟩
 | .fn f,e,c,S,ν,M,E,h,x,m,⟨hm,hE⟩,hw,l,S',hs=>by
   subst hm;subst hE;cases hs;exact⟨ν,M,h,⟨_,[],rfl,⟨[],[],rfl,rfl,rfl⟩,rfl⟩,λ_ _=>rfl,rfl,aU _⟩
 | .aw t,e,c,S,ν,M,E,h,x,m,⟨v,hm,hr⟩,hw,l,S',hs=>by subst hm;exact Qz h hr hw hs
 | .nl,e,c,S,ν,M,E,h,x,m,⟨hm,hE⟩,hw,l,S',hs=>by
   subst hm;subst hE;cases hs;exact⟨ν,M,h,⟨_,[],rfl,rfl,rfl⟩,λ_ _=>rfl,rfl,aU _⟩
 | .sf f,e,c,S,ν,M,E,h,x,m,⟨⟨b,hm,hb⟩,hE⟩,hw,l,S',hs=>by
   subst hm;subst hE;cases hs;exact⟨ν,M,h,⟨_,[],rfl,⟨b,rfl,hb⟩,rfl⟩,λ_ _=>rfl,rfl,aU _⟩
 | .dn t,e,c,S,ν,M,E,h,x,m,⟨v,hm,h0,hv,hE⟩,hw,l,S',hs=>by
   subst hm;subst hE;cases hs;exact⟨ν,M,h,⟨v,[],rfl,⟨h0,hv⟩,rfl⟩,λ_ _=>rfl,rfl,aU _⟩
def jks {r:Rep} {E:List Ent} (h:ConX B ro e (c.park E) S tm H nx ν F M R) {x:r.den} {v:AV} (hr:gC F r x v E) (hw:∀x∈E,x.w=true) {s:SV} {S':St} (hs:Ra r x e S=some (s,S')):
  ∃ν' M',ConX B ro e c S' tm H nx ν' F M' R/\aJ ν' F s v/\(∀b,b<S.nc->ν' b=ν b)/\S'.fr=S.fr/\S.nc<=S'.nc:=by
 have gen:(match xH r x e S with
  | some (l,S')=>bif r.agg then some (SV.agg l,S') else match l with
    | [s]=>some (s,S')
    | _=>none
  | none=>none)=some (s,S')->∃ν' M',ConX B ro e c S' tm H nx ν' F M' R/\aJ ν' F s v/\(∀b,b<S.nc->ν' b=ν b)/\S'.fr=S.fr/\S.nc<=S'.nc:=by
  intro hs;split at hs<;>try (cases hs;done)
  rename_i l S1 hl;unfold gC at hr;cases ha:r.agg with
  | true=>
    rw[ha] at hs hr;cases hs;obtain⟨m,rfl,hm⟩:=hr;obtain⟨ν',M',h1,h2,h3⟩:=Jw r h hm hw hl;exact⟨ν',M',h1,⟨m,rfl,h2⟩,h3⟩
  | false=>
    rw[ha] at hs hr;simp only[aF] at hs hr;split at hs<;>cases hs
    obtain⟨ν',M',h1,h2,h3⟩:=Jw r h hr hw hl;obtain⟨w,_,e1,h4,e2⟩:=h2;subst e2;cases e1;exact⟨ν',M',h1,h4,h3⟩
 cases r with
 | d t=>
   simp only[Ra] at hs;cases hs;have:t.ok=true/\Rel F t x v/\E=[]:=by
    unfold gC at hr;simp only[Rep.agg] at hr;unfold Rel;cases ha:t.agg with
    | true=>
      rw[ha] at hr;obtain⟨m,rfl,h1,h2,h3⟩:=hr;exact⟨h1,⟨m,rfl,h2⟩,h3⟩
    | false=>
      rw[ha] at hr;exact hr
   obtain⟨h1,h2,rfl⟩:=this;exact⟨ν,M,h,Ea h1 h2,λ_ _=>rfl,rfl,aU _⟩
 | own t=>exact gen hs
 | ownc t=>exact gen hs
 | ownx t=>exact gen hs
 | p a b=>exact gen hs
 | u=>exact gen hs
 | err=>exact gen hs
 | fn f=>exact gen hs
 | nl=>exact gen hs
 | aw t=>exact gen hs
 | dn t=>exact gen hs
 | sf t=>exact gen hs
 | mp k v=>exact gen hs
 | dx t=>exact gen hs
def jZ {r:Rep} (h:ConX B ro e c S tm H nx ν F M R) {s:SV} {cc:Option Bool} {mv:bE} {x:r.den} (hs:Qi r S.mv s=some (cc,mv,x)) (hc:dT cc=true) {v:AV} (hv:aJ ν F s v):
  ∃E F' M' R',ConX B ro e (c.park E) { S with mv:=mv } tm H nx ν F' M' R'/\(∀x∈E,x.w=true)/\(∀x∈F,x∈F')/\gC F' r x v E:=by
 unfold Qi at hs;unfold gC;cases ha:r.agg with
 | true=>
   rw[ha] at hs;simp only[aB] at hs;unfold jjj at hs;split at hs<;>try (cases hs;done)
   obtain⟨m,e1,hm⟩:=hv;obtain⟨E,F',M',R',h1,h2,h3,h4⟩:=zZ r h hs hc hm;exact⟨E,F',M',R',h1,h2,h3,m,e1,h4⟩
 | false=>
   rw[ha] at hs;simp only[aF] at hs;exact zZ r h hs hc ⟨v,[],rfl,hv,rfl⟩
def Zz {r:Rep} (h:ConX B ro e c S tm H nx ν F M R) {s:SV} {cc:Option Bool} {mv:bE} {x:r.den} (hs:Jm r S.mv s=some (cc,mv,x)) (hc:dT cc=true) {v:AV} (hv:aJ ν F s v):
  ∃E F' M' R',ConX B ro e (c.park E) { S with mv:=mv } tm H nx ν F' M' R'/\(∀x∈E,x.w=true)/\(∀x∈F,x∈F')/\gC F' r x v E:=by
 cases r with
 | d t=>
   cases t with
   | arr n t=>
     simp only[Jm] at hs;unfold jjk at hs;split at hs<;>try (cases hs;done)
     ·rename_i n' t' L;obtain⟨hn,hs⟩:=aR hs;simp only[aN,aL,aH] at hn;obtain⟨rfl,ht⟩:=hn;split at hs<;>try (cases hs;done)
      rename_i et;subst et;cases hs;obtain⟨m,e1,hm⟩:=hv;exact⟨[],F,M,R,h,λ_ h=>(by cases h),λ_ h=>h,m,e1,ht,hm,rfl⟩
     ·obtain⟨m,e1,hm⟩:=hv;obtain⟨E,F',M',R',h1,h2,h3,h4⟩:=zZ (.d (.arr n t)) h hs hc hm;exact⟨E,F',M',R',h1,h2,h3,m,e1,h4⟩
   | int k=>exact jZ h hs hc hv
   | bool=>exact jZ h hs hc hv
   | str=>exact jZ h hs hc hv
   | unit=>exact jZ h hs hc hv
   | prod a b=>exact jZ h hs hc hv
   | sl t=>exact jZ h hs hc hv
   | slx t=>exact jZ h hs hc hv
 | own t=>exact jZ h hs hc hv
 | ownc t=>exact jZ h hs hc hv
 | ownx t=>exact jZ h hs hc hv
 | p a b=>exact jZ h hs hc hv
 | u=>exact jZ h hs hc hv
 | err=>exact jZ h hs hc hv
 | fn f=>exact jZ h hs hc hv
 | nl=>exact jZ h hs hc hv
 | aw t=>exact jZ h hs hc hv
 | dn t=>exact jZ h hs hc hv
 | sf t=>exact jZ h hs hc hv
 | mp k v=>exact jZ h hs hc hv
 | dx t=>exact jZ h hs hc hv
end X
end Go.Vm
namespace Go.Vm
namespace X
open W
variable {B:Base} {ro:Nat} {e:Env} {c:Cnv} {S:St} {tm:Tr AV} {H:Tr Blk} {nx:Nat} {ν:Nm} {F:aQ} {M R:List Ent}
@[reducible] def eE:List Rep->Type
  | []=>Unit
  | [r]=>r.den
  | r::r'::l=>r.den×eE (r'::l)
def lT (F:aQ):(l:List Rep)->eE l->List AV->List Ent->Prop
 | [],_,vs,E=>vs=[]/\E=[]
 | [r],x,vs,E=>∃v,vs=[v]/\gC F r x v E
 | r::r'::l,x,vs,E=>∃v vs' E1 E2,vs=v::vs'/\E=E2++E1/\gC F r x.1 v E1/\lT F (r'::l) x.2 vs' E2
def qP:(l:List Rep)->bE->List SV->Option (Option Bool×bE×eE l)
 | [],mv,ss=>match ss with
   | []=>some (none,mv,())
   | _=>none
 | [r],mv,ss=>match ss with
   | [s]=>Jm r mv s
   | _=>none
 | r::r'::l,mv,ss=>match ss with
   | s::ss=>match Jm r mv s with
     | some (c1,mv,x)=>match qP (r'::l) mv ss with
       | some (c2,mv,y)=>some (wS c1 c2,mv,(x,y))
       | none=>none
     | none=>none
   | _=>none
def sG:(l:List Rep)->eE l->Env->St->Option (List SV×St)
 | [],_,e,S=>some ([],S)
 | [r],x,e,S=>match Ra r x e S with
   | some (s,S)=>some ([s],S)
   | none=>none
 | r::r'::l,x,e,S=>match Ra r x.1 e S with
   | some (s,S1)=>match sG (r'::l) x.2 { e with ov:=s::e.ov } S1 with
     | some (ss,S2)=>some (s::ss,S2)
     | none=>none
   | none=>none
def Pb {F F':aQ} (hF:∀x∈F,x∈F') {r:Rep} {x:r.den} {v:AV} {E:List Ent} (h:gC F r x v E):gC F' r x v E:=by
 unfold gC at h ⊢;cases ha:r.agg with
 | true=>
   rw[ha] at h;obtain⟨m,e1,h⟩:=h;exact⟨m,e1,zI hF r _ _ _ h⟩
 | false=>
   rw[ha] at h;exact zI hF r _ _ _ h
def Qj:∀(l:List Rep) {c:Cnv} {S:St} {F:aQ} {M R:List Ent} (h:ConX B ro e c S tm H nx ν F M R) {ss:List SV} {cc:Option Bool} {mv:bE} {x:eE l} (hs:qP l S.mv ss=some (cc,mv,x)) (hc:dT cc=true) {vs:List AV} (hv:bC ν F ss vs),
  ∃E F' M' R',ConX B ro e (c.park E) { S with mv:=mv } tm H nx ν F' M' R'/\(∀x∈E,x.w=true)/\(∀x∈F,x∈F')/\lT F' l x vs E
 | [],c,S,F,M,R,h,ss,cc,mv,x,hs,hc,vs,hv=>by
   simp only[qP] at hs;split at hs<;>cases hs
   exact⟨[],F,M,R,h,λ_ h=>(by cases h),λ_ h=>h,hv,rfl⟩
 | [r],c,S,F,M,R,h,ss,cc,mv,x,hs,hc,vs,hv=>by
   simp only[qP] at hs;split at hs<;>try (cases hs;done)
   obtain⟨v,_,rfl,h1,rfl⟩:=hv;obtain⟨E,F',M',R',k1,k2,k3,k4⟩:=Zz h hs hc h1;exact⟨E,F',M',R',k1,k2,k3,v,rfl,k4⟩
 | r::r'::l,c,S,F,M,R,h,ss,cc,mv,x,hs,hc,vs,hv=>by
   simp only[qP] at hs;split at hs<;>try (cases hs;done)
   rename_i s ss;split at hs<;>try (cases hs;done)
   rename_i c1 mv1 x1 h1;split at hs<;>try (cases hs;done)
   rename_i c2 mv2 x2 h2;cases hs;rw[Ks] at hc;obtain⟨v,vs',rfl,v1,v2⟩:=hv;obtain⟨E1,F1,M1,R1,k1,k2,k3,k4⟩:=Zz h h1 hc.1 v1;obtain⟨E2,F2,M2,R2,j1,j2,j3,j4⟩:=Qj (r'::l) (S:={ S with mv:=mv1 }) k1 h2 hc.2 (jT k3 _ _ v2);refine⟨E2++E1,F2,M2,R2,?_,λx hx=>?_,λx hx=>j3 x (k3 x hx),v,vs',E1,E2,rfl,rfl,Pb j3 k4,j4⟩
   ·have:(c.park E1).park E2=c.park (E2++E1):=by simp[Cnv.park]
    rw[<-this];exact j1
   ·rcases aZ.1 hx with hx | hx
    ·exact j2 x hx
    ·exact k2 x hx
def Jy:∀(l:List Rep) {e:Env} {c:Cnv} {S:St} {ν:Nm} {M:List Ent} {E:List Ent} (h:ConX B ro e (c.park E) S tm H nx ν F M R) {x:eE l} {vs:List AV} (hr:lT F l x vs E) (hw:∀x∈E,x.w=true) {ss:List SV} {S':St} (hs:sG l x e S=some (ss,S')),
  ∃ν' M',ConX B ro e c S' tm H nx ν' F M' R/\bC ν' F ss vs/\(∀b,b<S.nc->ν' b=ν b)/\S'.fr=S.fr/\S.nc<=S'.nc
 | [],e,c,S,ν,M,E,h,x,vs,⟨hv,hE⟩,hw,ss,S',hs=>by
   subst hE;subst hv;cases hs;exact⟨ν,M,h,rfl,λ_ _=>rfl,rfl,aU _⟩
 | [r],e,c,S,ν,M,E,h,x,vs,⟨v,hv,hr⟩,hw,ss,S',hs=>by
   subst hv;simp only[sG] at hs;split at hs<;>cases hs
   rename_i s hs;obtain⟨ν',M',k1,k2,k3⟩:=jks h hr hw hs;exact⟨ν',M',k1,⟨v,[],rfl,k2,rfl⟩,k3⟩
 | r::r'::l,e,c,S,ν,M,E,h,x,vs,⟨v,vs',E1,E2,e1,e2,h1,h2⟩,hw,ss,S',hs=>by
   subst e1;subst e2;simp only[sG] at hs;split at hs<;>try (cases hs;done)
   rename_i s S1 hs1;split at hs<;>try (cases hs;done)
   rename_i ss2 S2 hs2;cases hs;have h':ConX B ro e ((c.park E2).park E1) S tm H nx ν F M R:=by
    have:=h.reP (P':=E1++(E2++c.P)) (by
     show(E1++(E2++c.P)).Perm ((E2++E1)++c.P);rw[<-cD];exact vP _ Bb)
    exact this
   obtain⟨ν1,M1,k1,k2,k3,k4,k5⟩:=jks h' h1 (λx hx=>hw x (by simp[hx])) hs1;have h'':ConX B ro { e with ov:=s::e.ov } (({ c with oa:=v::c.oa }:Cnv).park E2) S1 tm H nx ν1 F M1 R:=
    ⟨k1.hk,k1.fr,⟨v,_,rfl,k2,k1.ov⟩,k1.mv,k1.wr,k1.mc,k1.fz,k1.gl⟩
   obtain⟨ν2,M2,j1,j2,j3,j4,j5⟩:=Jy (r'::l) h'' h2 (λx hx=>hw x (by simp[hx])) hs2;obtain⟨v2,m2,e3,q1,q2⟩:=j1.ov;cases e3;exact⟨ν2,M2,⟨j1.hk,j1.fr,q2,j1.mv,j1.wr,j1.mc,j1.fz,j1.gl⟩,⟨v,vs',rfl,q1,j2⟩,λb hb=>by rw[j3 b (by omega),k3 b hb],j4.trans k4,by omega⟩
inductive Pl where
 | t (n:Nat)
 | b (b:Nat)
 | o (b:Nat)
 | bm (k:Nat)
 | om (k:Nat)
def Pl.sh (b0:Nat) (p:Pl):Pl:=match p with
 | Pl.t n=>Pl.t n
 | Pl.b m=>Pl.b (b0+m)
 | Pl.o m=>Pl.o (b0+m)
 | Pl.bm m=>Pl.b (b0-m)
 | Pl.om m=>Pl.o (b0-m)
def tV (fr:gV) (nc:Nat):List Pl->bE->Option (List SV×bE)
 | [],mv=>some ([],mv)
 | .t n::l,mv=>match cR fr n,tV fr nc l mv with
   | some s,some (ss,mv)=>some (s::ss,mv)
   | _,_=>none
 | .b b::l,mv=>bif Nat.blt b nc then(match cL mv b with
   | some (.lit cs)=>match tV fr nc l (eM mv b) with
     | some (ss,mv)=>some (.agg cs::ss,mv)
     | none=>none
   | some (.fix t n L)=>match tV fr nc l (eM mv b) with
     | some (ss,mv)=>some (.ag n t L::ss,mv)
     | none=>none
   | _=>none) else none
 | .o b::l,mv=>bif Nat.blt b nc then(match cL mv b with
   | some (.arr t L cap)=>match tV fr nc l mv with
     | some (ss,mv)=>some (.own b::ss,mv)
     | none=>none
   | some (.mp k v L)=>match tV fr nc l mv with
     | some (ss,mv)=>some (.mp b::ss,mv)
     | none=>none
   | _=>none) else none
 | .bm _::_,_=>none
 | .om _::_,_=>none
def vV:bE->Nat->Nat->bE
 | [],_,_=>[]
 | (k,v)::r,n,b=>bif Nat.beq k n then(b,v)::r else(k,v)::vV r n b
def sE:List Pl->List SV->St->Option St
 | [],ss,S=>match ss with
   | []=>some S
   | _=>none
 | .t n::l,ss,S=>match ss with
   | s::ss=>match sE l ss S with
     | some S=>some { S with fr:=(n,s)::S.fr }
     | none=>none
   | _=>none
 | .b b::l,ss,S=>match ss with
   | .agg cs::ss=>match sE l ss S with
     | some S=>some { S with mv:=(b,.lit cs)::S.mv }
     | none=>none
   | .ag n t L::ss=>match sE l ss S with
     | some S=>some { S with mv:=(b,.fix t n L)::S.mv }
     | none=>none
   | _=>none
 | .o b::l,ss,S=>match ss with
   | .own n::ss=>match cL S.mv n with
     | some (.arr _ _ _)=>sE l ss { S with mv:=vV S.mv n b }
     | _=>none
   | .mp n::ss=>match cL S.mv n with
     | some (.mp _ _ _)=>sE l ss { S with mv:=vV S.mv n b }
     | _=>none
   | _=>none
 | .bm _::_,_,_=>none
 | .om _::_,_,_=>none
def PlO (x:Nat×AV) (vs vs':List AV):Prop:=∃v,vs=v::vs'/\(v=x.2/\Vh v=true/\(∀k o n c z,x.2=.sl k o n c z->k=x.1)\/v=.mp x.1)
def rU (ν:Nm) (tm:Tr AV) (nc:Nat):List Pl->List AV->List Ent->Prop
 | [],vs,E=>vs=[]/\E=[]
 | .t n::l,vs,E=>∃vs',vs=aT tm (.t n)::vs'/\rU ν tm nc l vs' E
 | .b b::l,vs,E=>∃m vs' E',vs=.agg m::vs'/\E=E'++[⟨(ν b).1,true,.cells m⟩]/\b<nc/\rU ν tm nc l vs' E'
 | .o b::l,vs,E=>∃vs',PlO (ν b) vs vs'/\True/\b<nc/\rU ν tm nc l vs' E
 | .bm _::_,_,_=>False
 | .om _::_,_,_=>False
def Ou {ν':Nm} {nc:Nat} (hν:∀b,b<nc->ν' b=ν b):∀ {l:List Pl} {vs:List AV} {E:List Ent},rU ν tm nc l vs E->rU ν' tm nc l vs E
 | [],vs,E,h=>h
 | .t n::l,vs,E,⟨vs',e1,h⟩=>⟨vs',e1,Ou hν h⟩
 | .b b::l,vs,E,⟨m,vs',E',e1,e2,h1,h2⟩=>⟨m,vs',E',e1,by rw[hν b h1];exact e2,h1,Ou hν h2⟩
 | .o b::l,vs,E,⟨vs',e1,e2,h1,h2⟩=>⟨vs',by rw[hν b h1];exact e1,e2,h1,Ou hν h2⟩
 | .bm _::_,vs,E,h=>h.elim
 | .om _::_,vs,E,h=>h.elim
def Fg {fr:gV} {nc:Nat}:∀(l:List Pl) {c:Cnv} {S:St} {M:List Ent} (h:ConX B ro e c S tm H nx ν F M R) (hfr:∀n s,cR fr n=some s->aJ ν F s (aT tm (.t n))) {ss:List SV} {mv:bE} (hs:tV fr nc l S.mv=some (ss,mv)),
  ∃vs E M',ConX B ro e (c.park E) { S with mv:=mv } tm H nx ν F M' R/\bC ν F ss vs/\rU ν tm nc l vs E
 | [],c,S,M,h,hfr,ss,mv,hs=>by cases hs;exact⟨[],[],M,h,rfl,rfl,rfl⟩
 | .t n::l,c,S,M,h,hfr,ss,mv,hs=>by
   simp only[tV] at hs;split at hs<;>cases hs
   rename_i s ss h1 h2;obtain⟨vs,E,M',k1,k2,k3⟩:=Fg l h hfr h2;exact⟨_,E,M',k1,⟨_,vs,rfl,hfr _ _ h1,k2⟩,vs,rfl,k3⟩
 | .b b::l,c,S,M,h,hfr,ss,mv,hs=>by
   simp only[tV] at hs;obtain⟨hb,hs⟩:=aR hs;have hb:b<nc:=by
    have:b+1<=nc:=by simpa[Nat.blt] using hb
    omega
   split at hs<;>try (cases hs;done)
   ·rename_i cs hl;split at hs<;>cases hs
    rename_i ss h2;obtain⟨E,M1,hE,hw,k⟩:=h.park hl;obtain⟨w,m,rfl,hm⟩:=hE;have ew:=hw _ (bF.2 rfl);simp only at ew;subst ew;obtain⟨vs,E',M',k1,k2,k3⟩:=Fg l (S:={ S with mv:=eM S.mv b }) k hfr h2;refine⟨.agg m::vs,E'++[⟨(ν b).1,true,.cells m⟩],M',?_,⟨_,vs,rfl,⟨m,rfl,hm⟩,k2⟩,m,vs,E',rfl,rfl,hb,k3⟩;have:(c.park [⟨(ν b).1,true,.cells m⟩]).park E'=c.park (E'++[⟨(ν b).1,true,.cells m⟩]):=by simp[Cnv.park]
    rw[<-this];exact k1
   ·rename_i t n L hl;split at hs<;>cases hs
    rename_i ss h2;obtain⟨E,M1,hE,hw,k⟩:=h.park hl;obtain⟨w,m,rfl,hln,hm⟩:=hE;have ew:=hw _ (bF.2 rfl);simp only at ew;subst ew;obtain⟨vs,E',M',k1,k2,k3⟩:=Fg l (S:={ S with mv:=eM S.mv b }) k hfr h2;refine⟨.agg m::vs,E'++[⟨(ν b).1,true,.cells m⟩],M',?_,⟨_,vs,rfl,⟨m,rfl,hln,hm⟩,k2⟩,m,vs,E',rfl,rfl,hb,k3⟩;have:(c.park [⟨(ν b).1,true,.cells m⟩]).park E'=c.park (E'++[⟨(ν b).1,true,.cells m⟩]):=by simp[Cnv.park]
    rw[<-this];exact k1
 | .o b::l,c,S,M,h,hfr,ss,mv,hs=>by
   simp only[tV] at hs;obtain⟨hb,hs⟩:=aR hs;have hb:b<nc:=by
    have:b+1<=nc:=by simpa[Nat.blt] using hb
    omega
   split at hs<;>try (cases hs;done)
   rotate_left
   ·rename_i k v L hl;split at hs<;>cases hs
    rename_i ss h2;obtain⟨vs,E',M',k1,k2,k3⟩:=Fg l h hfr h2;exact⟨.mp (ν b).1::vs,E',M',k1,⟨_,vs,rfl,rfl,k2⟩,vs,⟨_,rfl,.inr rfl⟩,trivial,hb,k3⟩
   rename_i t L cap hl;split at hs<;>cases hs
   rename_i ss h2;obtain⟨E0,hE0,_⟩:=h.own hl;obtain⟨vs,E',M',k1,k2,k3⟩:=Fg l h hfr h2;have hd:∃sz,rQ (ν b) t.size L.length cap sz:=by
    obtain⟨_,hE0⟩:=hE0;rcases hE0 with⟨hd,_⟩ | ⟨_,_,_,hd,_⟩
    ·exact⟨_,hd⟩
    ·exact⟨_,hd⟩
   obtain⟨sz,hd⟩:=hd;have hsl:Vh (ν b).2=true:=by rcases hd with⟨e1,_⟩ | ⟨_,_,e1,_⟩<;>rw[e1]<;>rfl
   refine⟨(ν b).2::vs,E',M',k1,⟨_,vs,rfl,⟨rfl,hsl⟩,k2⟩,vs,⟨_,rfl,.inl ⟨rfl,hsl,?_⟩⟩,trivial,hb,k3⟩
   ·intro k o n c z hk;rcases hd with⟨e1,_⟩ | ⟨_,_,e1,_⟩
    ·rw[e1] at hk;cases hk
    ·rw[e1] at hk;cases hk;rfl
 | .bm _::l,c,S,M,h,hfr,ss,mv,hs=>by cases hs
 | .om _::l,c,S,M,h,hfr,ss,mv,hs=>by cases hs
def jfr {n b:Nat} {t:Ty} {L:List t.den} {cap:Option Nat} (hν:(ν n).2=(ν b).2) (hk:∀k o m c z,(ν b).2=.sl k o m c z->k=(ν b).1):∀ {m:bE} {M:List Ent},gN ν F m M->cL m n=some (.arr t L cap)->gN ν F (vV m n b) M
 | [],M,h,_=>h
 | (k,v)::m,M,⟨E,M',e1,h1,h2⟩,h=>by
   simp only[cL] at h;simp only[vV];cases hb:Nat.beq k n<;>rw[hb] at h<;>simp only[aB,aF] at h ⊢
   ·exact⟨E,M',e1,h1,jfr hν hk h2 h⟩
   ·cases h;rw[aL,aH] at hb;subst hb;refine⟨E,M',e1,?_,h2⟩;obtain⟨h0,h1⟩:=h1;have hd:∀ {sz:Option Nat},rQ (ν k) t.size L.length cap sz->rQ (ν b) t.size L.length cap sz/\((∃y,sz=some y)->(ν k).1=(ν b).1):=by
     intro sz h;rcases h with⟨g1,g2,g3⟩ | ⟨c',y,g1,g2,g3⟩
     ·exact⟨.inl ⟨by rw[<-hν];exact g1,g2,g3⟩,fun⟨y,hy⟩=>by rw[g2] at hy;cases hy⟩
     ·have hkk:=hk _ _ _ _ _ (by rw[<-hν];exact g1);exact⟨.inr ⟨c',y,by rw[<-hν,<-hkk];exact g1,g2,g3⟩,λ_=>hkk⟩
    rcases h1 with⟨g1,g2⟩ | ⟨w,mm,g1,g2,g3⟩
    ·exact⟨h0,.inl ⟨(hd g1).1,g2⟩⟩
    ·exact⟨h0,.inr ⟨w,mm,by rw[<-(hd g2).2 ⟨_,rfl⟩];exact g1,(hd g2).1,g3⟩⟩
def jfs {n b:Nat} {sb:SB} (hB:∀E,dR ν F n sb E->dR ν F b sb E):∀ {m:bE} {M:List Ent},gN ν F m M->cL m n=some sb->gN ν F (vV m n b) M
 | [],M,h,_=>h
 | (k,v)::m,M,⟨E,M',e1,h1,h2⟩,h=>by
   simp only[cL] at h;simp only[vV];cases hb:Nat.beq k n<;>rw[hb] at h<;>simp only[aB,aF] at h ⊢
   ·exact⟨E,M',e1,h1,jfs hB h2 h⟩
   ·cases h;rw[aL,aH] at hb;subst hb;exact⟨E,M',e1,hB E h1,h2⟩
def Dy {nc:Nat}:∀(l:List Pl) {c:Cnv} {S:St} {M:List Ent} {E:List Ent} (h:ConX B ro e (c.park E) S tm H nx ν F M R) {ss:List SV} {vs:List AV} (hv:bC ν F ss vs) (hp:rU ν tm nc l vs E) {S':St} (hs:sE l ss S=some S'),
  ∃M',ConX B ro e c S' tm H nx ν F M' R/\S'.nc=S.nc
 | [],c,S,M,E,h,ss,vs,hv,⟨hvs,hE⟩,S',hs=>by
   subst hE;simp only[sE] at hs;split at hs<;>cases hs
   exact⟨M,h,rfl⟩
 | .t n::l,c,S,M,E,h,ss,vs,hv,⟨vs',hvs,hp⟩,S',hs=>by
   subst hvs;simp only[sE] at hs;split at hs<;>try (cases hs;done)
   rename_i s ss;split at hs<;>cases hs
   rename_i S1 h1;obtain⟨v,m',e1,v1,v2⟩:=hv;cases e1;obtain⟨M',k1,k2⟩:=Dy l h v2 hp h1;refine⟨M',⟨k1.hk,λk v hk=>?_,k1.ov,k1.mv,k1.wr,k1.mc,k1.fz,k1.gl⟩,k2⟩;simp only[eW,cR] at hk;cases hb:Nat.beq n k<;>rw[hb] at hk<;>simp only[aB,aF] at hk
   ·exact k1.fr k v hk
   ·cases hk;rw[aL,aH] at hb;subst hb;exact v1
 | .b b::l,c,S,M,E,h,ss,vs,hv,⟨m,vs',E',hvs,hE,hb,hp⟩,S',hs=>by
   subst hvs;subst hE;have h':ConX B ro e ((c.park [⟨(ν b).1,true,.cells m⟩]).park E') S tm H nx ν F M R:=by
    have:(c.park [⟨(ν b).1,true,.cells m⟩]).park E'=c.park (E'++[⟨(ν b).1,true,.cells m⟩]):=by simp[Cnv.park]
    rw[this];exact h
   have ww:∀x∈([⟨(ν b).1,true,.cells m⟩]:List Ent),x.w=true:=λx hx=>by rw[bF.1 hx]
   simp only[sE] at hs;split at hs<;>try (cases hs;done)
   ·rename_i cs ss;split at hs<;>cases hs
    rename_i S1 h1;obtain⟨v,m',e1,v1,v2⟩:=hv;cases e1;obtain⟨m2,e2,v1⟩:=v1;cases e2;obtain⟨M',k1,k2⟩:=Dy l h' v2 hp h1;exact⟨_,Nz k1 (sb:=.lit cs) ⟨true,m,rfl,v1⟩ ww,k2⟩
   ·rename_i n t L ss;split at hs<;>cases hs
    rename_i S1 h1;obtain⟨v,m',e1,v1,v2⟩:=hv;cases e1;obtain⟨m2,e2,hl1,v1⟩:=v1;cases e2;obtain⟨M',k1,k2⟩:=Dy l h' v2 hp h1;exact⟨_,Nz k1 (sb:=.fix t n L) ⟨true,m,rfl,hl1,v1⟩ ww,k2⟩
 | .o b::l,c,S,M,E,h,ss,vs,hv,⟨vs',⟨v0,hvs,hkk⟩,_,hb,hp⟩,S',hs=>by
   subst hvs;simp only[sE] at hs;split at hs<;>try (cases hs;done)
   rotate_left
   ·rename_i n ss;split at hs<;>try (cases hs;done)
    rename_i k v L hl;obtain⟨v,m',e1,v1,v2⟩:=hv;cases e1;have v1:v0=.mp (ν n).1:=v1;rcases hkk with⟨_,hsl,_⟩ | hkk
    ·rw[v1] at hsl;cases hsl
    have e2:(ν n).1=(ν b).1:=by
     rw[v1] at hkk;injection hkk
    have hren:ConX B ro e (c.park E) { S with mv:=vV S.mv n b } tm H nx ν F M R:=
     ⟨h.hk,h.fr,h.ov,jfs (λE hE=>by simp only[dR] at hE ⊢;rw[<-e2];exact hE) h.mv hl,h.wr,h.mc,h.fz,h.gl⟩
    exact Dy l hren v2 hp hs
   rename_i n ss;split at hs<;>try (cases hs;done)
   rename_i t L cap hl;obtain⟨v,m',e1,v1,v2⟩:=hv;cases e1;rcases hkk with⟨rfl,_,hkk⟩ | hkk
   rotate_left
   ·have h2:=v1.2;rw[hkk] at h2;cases h2
   have hren:ConX B ro e (c.park E) { S with mv:=vV S.mv n b } tm H nx ν F M R:=
    ⟨h.hk,h.fr,h.ov,jfr v1.1.symm hkk h.mv hl,h.wr,h.mc,h.fz,h.gl⟩
   exact Dy l hren v2 hp hs
 | .bm _::l,c,S,M,E,h,ss,vs,hv,hp,S',hs=>hp.elim
 | .om _::l,c,S,M,E,h,ss,vs,hv,hp,S',hs=>hp.elim
end X
end Go.Vm
