/- Parts of the proof. -/
import Derived.Test.YtccefhabickfiaaGreatDoorXG3
set_option linter.unusedSimpArgs false
set_option linter.defProp false
set_option linter.unusedVariables false
namespace Go.Vm
namespace X
open W
variable {B:Base} {ro:Nat} {e:Env} {c:Cnv} {S:St} {tm:Tr AV} {H:Tr Blk} {nx:Nat} {ν:Nm} {F:aQ} {M R:List Ent}
def Ax:SV->Option (Nat×Nat)
 | .ptr b o=>some (b,o)
 | .nptr b _ _ f=>some (b,f)
 | .cptr b _ _ _=>some (b,0)
 | _=>none
def Ay {s:SV} {b o:Nat} (h:Ax s=some (b,o)) {v:AV} (hv:aJ ν F s v):v=.ptr (ν b).1 o:=by
 cases s<;>simp only[Ax,reduceCtorEq,aG,aM] at h
 ·obtain⟨rfl,rfl⟩:=h;exact hv
 ·obtain⟨rfl,rfl⟩:=h;exact hv.1
 ·obtain⟨rfl,rfl⟩:=h;exact hv.1
def Ty.flatK:Ty->Bool
 | .prod a b=>a.flatK&&b.flatK
 | .arr _ t=>t.flatK
 | .sl _ | .slx _=>false
 | _=>true
def Ty.kc:Ty->List Nat
 | .int _=>[1]
 | .bool=>[0]
 | .str=>[2]
 | .unit=>[]
 | .prod a b=>a.kc++b.kc
 | .arr n t=>(List.replicate n t.kc).flatten
 | .sl _ | .slx _=>[9]
def leq {α:Type} (f:α->α->Bool):List α->List α->Bool
 | [],[]=>true
 | a::l,b::m=>bif f a b then leq f l m else false
 | _,_=>false
def Ty.eqb:(t:Ty)->t.den->t.den->Bool
 | .int _,x,y=>decide ((x:Int)=y)
 | .bool,x,y=>(x:Bool)==y
 | .str,x,y=>lJ x y
 | .unit,_,_=>true
 | .prod a b,x,y=>bif a.eqb x.1 y.1 then b.eqb x.2 y.2 else false
 | .arr _ t,x,y=>leq t.eqb x y
 | .sl _,_,_ | .slx _,_,_=>false
def gR (k v:Ty) (x:k.den):List (k.den×v.den)->Option v.den
 | []=>none
 | a::L=>bif k.eqb x a.1 then some a.2 else gR k v x L
def nH (k v:Ty) (x:k.den) (y:v.den):List (k.den×v.den)->List (k.den×v.den)
 | []=>[(x,y)]
 | a::L=>bif k.eqb x a.1 then(x,y)::L else a::nH k v x y L
def Ri:∀(t:Ty),t.flatK=true->t.kc.length=t.size
 | .int _,_=>rfl
 | .bool,_=>rfl
 | .str,_=>rfl
 | .unit,_=>rfl
 | .prod a b,h=>by
   simp only[Ty.flatK,aN] at h;simp only[Ty.kc,Ty.size,dS,Ri a h.1,Ri b h.2]
 | .arr n t,h=>by
   simp only[Ty.flatK] at h;have:=Ri t h;simp[Ty.kc,Ty.size,this]
def Pz:∀(t:Ty),t.flatK=true->∀(x y:t.den) (l m:List AV),aX F t x l->aX F t y m->∀ks l' m',fJ (t.kc++ks) (l++l') (m++m')=bif t.eqb x y then fJ ks l' m' else some false
 | .int k,_,x,y,l,m,h1,h2,ks,l',m'=>by
   simp only[aX] at h1 h2;subst h1;subst h2;have e1:jO k k=true:=pH.2 rfl;have e2:kP 1 (.int k x) (.int k y)=some (decide ((x:Int)=y)):=by
    simp only[kP,e1,bR,xG];rfl
   show fJ (1::ks) (.int k x::l') (.int k y::m')=_;simp only[fJ,e2,Ty.eqb];cases decide ((x:Int)=y)<;>rfl
 | .bool,_,x,y,l,m,h1,h2,ks,l',m'=>by
   simp only[aX] at h1 h2;subst h1;subst h2;simp only[Ty.kc,eW,dZ,fJ,kP,Ty.eqb];cases x<;>cases y<;>rfl
 | .str,_,x,y,l,m,h1,h2,ks,l',m'=>by
   simp only[aX] at h1 h2;subst h1;subst h2;simp only[Ty.kc,eW,dZ,fJ,kP,Ty.eqb];cases lJ x y<;>rfl
 | .unit,_,x,y,l,m,h1,h2,ks,l',m'=>by
   simp only[aX] at h1 h2;subst h1;subst h2;rfl
 | .prod a b,hf,x,y,l,m,⟨l1,l2,e1,p1,p2⟩,⟨m1,m2,e2,q1,q2⟩,ks,l',m'=>by
   simp only[Ty.flatK,aN] at hf;subst e1;subst e2;simp only[Ty.kc,cD];rw[Pz a hf.1 _ _ _ _ p1 q1,Pz b hf.2 _ _ _ _ p2 q2];simp only[Ty.eqb];cases a.eqb x.1 y.1<;>rfl
 | .arr n t,hf,x,y,l,m,⟨n1,p⟩,⟨n2,q⟩,ks,l',m'=>by
   simp only[Ty.flatK] at hf;have key:∀(x y:List t.den) (l m:List AV),x.length=y.length->bO (aX F t) x l->bO (aX F t) y m->fJ ((List.replicate x.length t.kc).flatten++ks) (l++l') (m++m')=bif leq t.eqb x y then fJ ks l' m' else some false:=by
    intro x;induction x with
    | nil=>
      intro y l m hl p q;cases y with
      | cons _ _=>simp at hl
      | nil=>
        simp only[bO] at p q;subst p;subst q;rfl
    | cons a x ih=>
      intro y l m hl p q;cases y with
      | nil=>simp at hl
      | cons b y=>
        obtain⟨l1,l2,e1,p1,p2⟩:=p;obtain⟨m1,m2,e2,q1,q2⟩:=q;subst e1;subst e2;simp only[dG,Ta,sN,cD];rw[Pz t hf _ _ _ _ p1 q1,ih y l2 m2 (by simpa using hl) p2 q2];simp only[leq];cases t.eqb a b<;>rfl
   have:=key x y l m (n1.trans n2.symm) p q;rw[n1] at this;exact this
def Yc {t:Ty} (hf:t.flatK=true) {x y:t.den} {a b:AV} (ha:Rel F t x a) (hb:Rel F t y b):jV t.agg t.kc a b=some (t.eqb x y):=by
 have fin:∀ {l m:List AV},aX F t x l->aX F t y m->fJ t.kc l m=some (t.eqb x y):=λh1 h2=>by
  have:=Pz t hf _ _ _ _ h1 h2 [] [] [];simp only[jQ] at this;rw[this];cases t.eqb x y<;>rfl
 unfold Rel at ha hb;unfold jV;cases hg:t.agg with
 | true=>
   rw[hg] at ha hb;obtain⟨l,rfl,ha⟩:=ha;obtain⟨m,rfl,hb⟩:=hb;simp only[aB,cV _ _ _ ha,cV _ _ _ hb,Ri t hf,dP,kH];exact fin ha hb
 | false=>
   rw[hg] at ha hb;exact fin ha hb
def jae {k v:Ty} (hf:k.flatK=true) {x:k.den} {a:AV} (ha:Rel F k x a):∀ {L:List (k.den×v.den)} {m:List (AV×AV)} (i:Nat),rR F k v L m->
  ∃r:Option (Nat×AV),vF k.agg k.kc a m i=some (r.map λz=>(i+z.1,z.2))/\((r=none/\gR k v x L=none)\/∃j b y,r=some (j,b)/\gR k v x L=some y/\Rel F v y b)/\
   ∀y b,Rel F v y b->rR F k v (nH k v x y L) (pM a b m r)
 | [],m,i,h=>by
   simp only[rR] at h;subst h;exact⟨none,rfl,.inl ⟨rfl,rfl⟩,λy b hb=>⟨a,b,[],rfl,ha,hb,rfl⟩⟩
 | p::L,m,i,⟨a',b',m',e,h1,h2,h3⟩=>by
   subst e;have hq:=Yc hf ha h1;cases hx:k.eqb x p.1 with
   | true=>
     rw[hx] at hq;refine⟨some (0,b'),by simp only[vF,hq];rfl,.inr ⟨0,b',p.2,rfl,by simp only[gR,hx,aB],h2⟩,λy b hb=>?_⟩;simp only[nH,hx,aB];exact⟨a,b,m',rfl,ha,hb,h3⟩
   | false=>
     rw[hx] at hq;obtain⟨r,k1,k2,k3⟩:=jae hf ha (i+1) h3;refine⟨r.map λz=>(z.1+1,z.2),?_,?_,λy b hb=>?_⟩
     ·simp only[vF,hq,k1];cases r with
      | none=>rfl
      | some z=>simp only[eX,aG,aM,mD];omega
     ·rcases k2 with⟨rfl,k2⟩ | ⟨j,b,y,rfl,k2,k4⟩
      ·exact .inl ⟨rfl,by simp only[gR,hx,aF,k2]⟩
      ·exact .inr ⟨j+1,b,y,rfl,by simp only[gR,hx,aF,k2],k4⟩
     ·simp only[nH,hx,aF];have:=k3 y b hb;cases r with
      | none=>exact⟨a',b',_,rfl,h1,h2,this⟩
      | some z=>exact⟨a',b',_,rfl,h1,h2,this⟩
def Jj:List Nat->List Nat->Bool
 | [],[]=>true
 | a::l,b::m=>a.beq b&&Jj l m
 | _,_=>false
def Zu:∀ {l m:List Nat},Jj l m=true->l=m
 | [],[],_=>rfl
 | a::l,b::m,h=>by
   simp only[Jj,aN,aL,aH] at h;rw[h.1,Zu h.2]
 | [],_::_,h=>by cases h
 | _::_,[],h=>by cases h
def jmj (g:Opd->Option SV):Option Opd->Bool
 | none=>true
 | some o=>match g o with
   | some (.int _ _)=>true
   | _=>false
def jcf:AV->Option SV
 | .agg l=>(vH l).map SV.agg
 | a=>Kp a
def j4h (hν:∀b,ν (gB+b)=(b,.nils)) {a:AV} {s:SV} (h:jcf a=some s):aJ ν F s a:=by
 unfold jcf at h;split at h
 ·rename_i l;cases hl:vH l with
  | none=>rw[hl] at h;cases h
  | some r=>
    rw[hl] at h;cases h;exact⟨l,rfl,Fd hν hl⟩
 ·exact jce hν h
def jl5 (ok:Bool) (v:Ty) (z:v.den) (y:Option v.den):SV:=bif ok then .tup [qS v (y.getD z),.bool y.isSome] else qS v (y.getD z)
def jpp {b:Nat} {x:SB}:∀ {M:bE},cL M b=some x->mG M b x=M
 | (k,v)::r,h=>by
   simp only[cL] at h;simp only[mG];cases hk:Nat.beq k b with
   | true=>
     rw[hk] at h;simp only[aB,aG] at h ⊢;rw[rB hk];subst h;rfl
   | false=>
     rw[hk] at h;simp only[aF] at h ⊢;rw[jpp h]
def Dj (b:Nat) (t:Ty) (L:List t.den) (cap:Option Nat) (o n:Nat) (N:List t.den) (S:St):NS:=
 some (some ((1:Nat).ble (List.length (α:=t.den) N)&&(1:Nat).ble n||Nat.beq n 0&&Nat.beq (List.length (α:=t.den) L) 0),.int .i64 (Int.ofNat (min (List.length (α:=t.den) N) n)),{ S with mv:=mG S.mv b (.arr t (List.take o L++(List.take (min (List.length (α:=t.den) N) n) N++List.drop (o+min (List.length (α:=t.den) N) n) L)) cap) })
def Ew (g:Opd->Option SV) (e:Env) (S:St) (q:Bool) (hn:Option Ty):I->NS
 | .mkmap r=>match hn with
   | some (.prod k v)=>bif k.flatK&&fresh e S&&jmj g r then some (none,.mp S.nc,kT S (.mp k v [])) else none
   | _=>none
 | .mlook agg ks z ok x k=>match g x,g k,jcf z with
   | some (.mp b),some sk,some sz=>match look e S b with
     | some (.mp kt vt L)=>bif kt.flatK&&vt.ok&&Jj ks kt.kc&&(agg==kt.agg) then(match As qW kt sk,As qW vt sz with
       | some x,some z=>some (none,jl5 ok vt z (gR kt vt x L),S)
       | _,_=>none) else none
     | _=>none
   | _,_,_=>none
 | .mset agg ks x k v=>bif q then none else match g x,g k,g v with
   | some (.mp b),some sk,some sv=>match cL S.mv b with
     | some (.mp kt vt L)=>bif kt.flatK&&Jj ks kt.kc&&(agg==kt.agg) then(match As qW kt sk,As qW vt sv with
       | some x,some y=>some (none,.tup [],{ S with mv:=mG S.mv b (.mp kt vt (nH kt vt x y L)) })
       | _,_=>none) else none
     | _=>none
   | _,_,_=>none
 | .copy z x y=>bif q then none else match g x,g y with
   | some (.aview b n o m z'),some sy=>match cL S.mv b with
     | some (.fix t n' L)=>bif z.beq t.size&&z'.beq t.size&&n.beq n'&& !(z.beq 0) then(match qJ (look e S) t sy with
       | some N=>some (some ((1:Nat).ble (List.length (α:=t.den) N)&&(List.length (α:=t.den) N).ble m),.int .i64 (Int.ofNat (List.length (α:=t.den) N)),{ S with mv:=mG S.mv b (.fix t n' (List.take o L++(N++List.drop (o+List.length (α:=t.den) N) L))) })
       | none=>none) else none
     | _=>none
   | some (.own b),some sy=>match cL S.mv b with
     | some (.arr t L cap)=>bif z.beq t.size then(match qJ (look e S) t sy with
       | some N=>Dj b t L cap 0 (List.length (α:=t.den) L) N S
       | none=>none) else none
     | _=>none
   | some (.view b o n _ z'),some sy=>match cL S.mv b with
     | some (.arr t L cap)=>bif z.beq t.size&&z'.beq t.size then(match qJ (look e S) t sy with
       | some N=>Dj b t L cap o n N S
       | none=>none) else none
     | _=>none
   | _,_=>none
 | _=>none
def j7u {α:Type} {z:Nat} {P:α->List AV->Prop} (hP:∀x l,P x l->l.length=z) {F':aQ} (hAt:∀x∈F',x.1<nx/\x.2.At H x.1) {L:List α} {v:AV} (h:jU F' z (bO P) L v) {k:Nat} (hk:k<=L.length):
  ∃new,iO z H k v=some new/\bO P (L.take k) new:=by
 rcases h with⟨rfl,rfl⟩ | ⟨b,o,cap,l,rfl,h1,h2,h3,h4⟩
 ·obtain rfl:k=0:=by simpa using hk
  exact⟨[],rfl,rfl⟩
 ·obtain⟨tc,k1,k2⟩:=(hAt _ h1).2;have hkz:k*z<=L.length*z:=iB _ hk;have h3':o+k*z<=l.length:=by omega
  refine⟨(l.drop o).take (k*z),?_,?_⟩
  ·simp only[iO,dP,aP,hk,bA,nM,aB,k1,h3',take_at (H:=H) (b:=0) k2 _ _ h3']
  ·have:=uM hP k h4;rwa[sU,oL hkz] at this
def jit (h:ConX B ro e c S tm H nx ν F M R) {t:Ty} {s:SV} {x:List t.den} (hd:qJ (look e S) t s=some x) {v:AV} (hv:aJ ν F s v) {k:Nat} (hk:k<=x.length):
  ∃new,iO t.size H k v=some new/\bO (aX F t) (x.take k) new:=by
 unfold qJ at hd;split at hd
 ·rename_i s;split at hd<;>try (cases hd;done)
  cases hd;simp only[aJ] at hv;subst hv;have h2:k<=s.length:=by simpa using hk
  refine⟨(s.take k).map λc=>AV.int .u8 (.ofNat c),?_,?_⟩
  ·simp only[iO,Ty.size,dP,aP,h2,bA,nM,aB]
  ·rw[<-Lp];exact jdu F _
 ·exact j7u (P:=aX F t) (cV t) h.allAt (jnt (λx hx=>aZ.2 (.inl hx)) h.ownR hd hv) hk
def jl6 {ok:Bool} {v:Ty} (hv:v.ok=true) {z:v.den} {y:Option v.den} {a:AV} (h:Rel F v (y.getD z) a):aJ ν F (jl5 ok v z y) (xU ok a y.isSome):=by
 have:=Ea (ν:=ν) hv h;cases ok with
 | true=>exact⟨_,rfl,a,_,rfl,this,.bool _,[],rfl,rfl,rfl⟩
 | false=>exact this
def Rx {call:FuncId->List AV->Tr Blk->Nat->Nat->bN} {g:Opd->Option SV} (hg:∀x s,g x=some s->aJ ν F s (aT tm x)) {q:Bool} (h:ConX B ro e c S tm H nx ν F M R) {hn:Option Ty} {i:I} {cc:Option Bool} {s:SV} {S':St} (hs:Ew g e S q hn i=some (cc,s,S')) (hc:dT cc=true):
  ∃v H' nx' ν' F' M' R',hop call (bif q then nx else ro) (aT tm) H nx i=some (v,H',nx')/\ConX B ro e c S' tm H' nx' ν' F' M' R'/\aJ ν' F' s v/\S'.fr=S.fr:=by
 cases i<;>simp only[Ew] at hs<;>try (cases hs;done)
 case mkmap r=>
  split at hs<;>try (cases hs;done)
  rename_i k v;obtain⟨hb,hs⟩:=aR hs;simp only[aN] at hb;obtain⟨⟨hk,hf⟩,hr⟩:=hb;cases hs;have h':=h.name hf (nx,.nils);refine⟨.mp nx,H.set nx (.mp []),nx+1,ν.upd S.nc (nx,.nils),F,⟨nx,true,.mp []⟩::M,R,?_,⟨?_,h'.fr,h'.ov,⟨_,M,rfl,⟨true,[],by rw[eI],rfl⟩,h'.mv⟩,λx hx=>by rcases bL.1 hx with rfl | hx;rfl;exact h.wr x hx,h'.mc,h.fz,h'.gl⟩,?_,rfl⟩
  ·cases r with
   | none=>simp only[hop,kE,xW]
   | some o=>
     simp only[jmj] at hr;split at hr<;>try (cases hr;done)
     rename_i ho;have:=hg _ _ ho;simp only[aJ] at this;simp only[hop,eX,this,xW]
  ·exact h.hk.new (.mp []) (.mp []) (by simp only[HB.At];rw[Tr.get_set,aK rfl])
  ·simp only[aJ,eI]
 case mlook agg ks z ok x k=>
  split at hs<;>try (cases hs;done)
  rename_i b sk sz hx hk hz;split at hs<;>try (cases hs;done)
  rename_i kt vt L hb;clear hc;obtain⟨hc,hs2⟩:=aR hs;clear hs;simp only[aN,beq_iff_eq] at hc;obtain⟨⟨⟨hf,hvo⟩,hks⟩,rfl⟩:=hc;have hks:=Zu hks;subst hks;split at hs2<;>try (cases hs2;done)
  rename_i xk zv hpk hpz;cases hs2;have rk:=Kx (F:=F) qB hpk (hg _ _ hk);have rz:=Kx (F:=F) qB hpz (j4h h.gl.1 hz);have hxv:=hg _ _ hx;simp only[aJ] at hxv;obtain⟨F',E,⟨w,m,rfl,hm⟩,hF,hE⟩:=h.look hb;have hm:rR F kt vt L m:=Oq (λx hx=>by rcases hF with rfl | rfl;exact hx;cases hx) hm;have hat:HB.At H (ν b).1 (.mp m):=(hE _ (bF.2 rfl)).2;simp only[HB.At] at hat;obtain⟨r,k1,k2,_⟩:=jae hf rk 0 hm;have hself:(jV kt.agg kt.kc (aT tm k) (aT tm k)).isSome=true:=by rw[Yc hf rk rk];rfl
  rcases k2 with⟨rfl,k2⟩ | ⟨j,bv,y,rfl,k2,k4⟩
  ·refine⟨xU ok z false,H,nx,ν,F,M,R,?_,h,?_,rfl⟩
   ·simp only[hop,hself,aB,hxv,hat,k1,kE]
   ·rw[k2];exact jl6 (y:=none) hvo rz
  ·refine⟨xU ok bv true,H,nx,ν,F,M,R,?_,h,?_,rfl⟩
   ·simp only[hop,hself,aB,hxv,hat,k1,eX]
   ·rw[k2];exact jl6 (y:=some y) hvo k4
 case mset agg ks x k v=>
  cases q with
  | true=>cases hs
  | false=>
  simp only[aF] at hs ⊢;split at hs<;>try (cases hs;done)
  rename_i b sk sv hx hk hv;split at hs<;>try (cases hs;done)
  rename_i kt vt L hb;clear hc;obtain⟨hc,hs2⟩:=aR hs;clear hs;simp only[aN,beq_iff_eq] at hc;obtain⟨⟨hf,hks⟩,rfl⟩:=hc;have hks:=Zu hks;subst hks;split at hs2<;>try (cases hs2;done)
  rename_i xk yv hpk hpv;cases hs2;have rk:=Kx (F:=F) qB hpk (hg _ _ hk);have rv:=Kx (F:=F) qB hpv (hg _ _ hv);have hxv:=hg _ _ hx;simp only[aJ] at hxv;obtain⟨E,⟨w,m,rfl,hm⟩,hp,hupd,_⟩:=h.own hb;obtain⟨hw,hro,_,hat⟩:=hp _ (bF.2 rfl);simp only at hw hro hat;subst hw;simp only[HB.At] at hat;obtain⟨r,k1,_,k3⟩:=jae hf rk 0 hm;have hself:(jV kt.agg kt.kc (aT tm k) (aT tm k)).isSome=true:=by rw[Yc hf rk rk];rfl
  have e0:(r.map λz=>(0+z.1,z.2))=r:=by cases r<;>simp
  rw[e0] at k1;obtain⟨M',hC⟩:=hupd (ν b).1 (.mp m) (.mp (pM (aT tm k) (aT tm v) m r)) (.mp (pM (aT tm k) (aT tm v) m r)) (.mp kt vt (nH kt vt xk yv L)) rfl (by simp only[HB.At];rw[Tr.get_set,aK rfl]) ⟨true,_,rfl,k3 _ _ rv⟩;refine⟨.tup [],H.set (ν b).1 (.mp (pM (aT tm k) (aT tm v) m r)),nx,ν,F,M',R,?_,hC,⟨[],rfl,rfl⟩,rfl⟩;simp only[hop,hxv,hat,k1,hself,nM,aP,hro,bA,aB,kJ]
 case copy z x y=>
  cases q with
  | true=>cases hs
  | false=>
  simp only[aF] at hs ⊢
  have arr:∀ {b:Nat} {t:Ty} {L N:List t.den} {cap:Option Nat} {o n:Nat} {sy:SV} {cp:Option Nat},cL S.mv b=some (.arr t L cap)->z=t.size->1<=n->qJ (look e S) t sy=some N->g y=some sy->
    aT tm x=.sl (ν b).1 (o*z) n cp z->o+n<=L.length->Dj b t L cap o n N S=some (cc,s,S')->
    ∃v H' nx' ν' F' M' R',hop call ro (aT tm) H nx (.copy z x y)=some (v,H',nx')/\ConX B ro e c S' tm H' nx' ν' F' M' R'/\aJ ν' F' s v/\S'.fr=S.fr:=by
   intro b t L N cap o n sy cp hb hz hnn hN hy hxv hon hcp;subst hz;cases hcp;simp only[dT,aN,kD,aP,aL,aH] at hc;obtain⟨hN1,hn1⟩:1<=N.length/\1<=n:=by
    rcases hc with hc | hc
    ·exact hc
    ·omega
   generalize hk:min N.length n=k;have hk1:k<=N.length:=by omega
   have hk2:k<=n:=by omega
   have hk0:1<=k:=by omega
   obtain⟨y1,_⟩:=Dm h hN (hg _ _ hy);obtain⟨new,y2,y3⟩:=jit h hN (hg _ _ hy) hk1;have hone:=rV (qC t) y3;have hnew:=jK (cV t) y3;rw[yG,oL hk1] at hnew;obtain⟨E,⟨h0,hE⟩,hp,hupd,_⟩:=h.own hb;rcases hE with⟨hd,rfl⟩ | ⟨w,mm,rfl,hd,hm,ha⟩
   ·rcases hd with⟨_,_,e1,_⟩ | ⟨_,_,_,e1,_⟩
    ·omega
    ·cases e1
   obtain⟨hw,hro,_,tc,p4,p5⟩:=hp _ (bF.2 rfl);simp only at hw hro p4 p5;subst hw;rcases hd with⟨_,e1,_⟩ | ⟨c',n',e1,e2,hle,g3,g4⟩
   ·cases e1
   cases e2;have hkz:(o+k)*t.size<=L.length*t.size:=iB _ (by omega);rw[fU] at hkz;have hat:=Ok (H:=H) (b:=(ν b).1) (new:=new) (o:=o*t.size) p5 (by omega);have hlen:(List.take o L++(List.take k N++List.drop (o+k) L)).length=L.length:=by simp;omega
   have hsl:(dQ mm (o*t.size) new).length=mm.length:=Gu (by omega);obtain⟨M',hC⟩:=hupd (ν b).1 (.cells mm) _ _ (.arr t (List.take o L++(List.take k N++List.drop (o+k) L)) cap) rfl hat ⟨h0,.inr ⟨true,_,rfl,by
    rw[hlen,hsl];exact .inr ⟨c',mm.length,e1,rfl,hle,g3,g4⟩,by
    rw[hlen,jp5 (by omega) (by omega)];have e3:dQ (mm.take (L.length*t.size)) (o*t.size) new=(mm.take (L.length*t.size)).take (o*t.size)++(new++(mm.take (L.length*t.size)).drop ((o+k)*t.size)):=by
     unfold dQ;rw[hnew,fU]
    rw[e3];exact tJ (uM (cV t) o hm) (tJ y3 (Ic (cV t) (o+k) hm)),Yd ha hone⟩⟩
   refine⟨.int .i64 k,_,nx,ν,F,M',R,?_,hC,rfl,rfl⟩;have e0:k.beq 0=false:=by rw[aL];simp;omega
   have ek:(bif N.length.ble n then N.length else n)=k:=by
    rw[aP];by_cases hh:N.length<=n
    ·simp only[hh,bA,aB];omega
    ·simp only[hh,bM,aF];omega
   have hle2:o*t.size+k*t.size<=mm.length:=by omega
   simp only[hop,y1,hxv];rw[ek];simp only[y2,e0,aF,p4,hro,dP,aP,hle2,bA,hone,kH,aB,jP,kJ]
  have arr0:∀ {b:Nat} {t:Ty} {L N:List t.den} {cap:Option Nat} {o n:Nat} {sy:SV},cL S.mv b=some (.arr t L cap)->z=t.size->n=0->L.length=0->qJ (look e S) t sy=some N->g y=some sy->
    (aT tm x=.nils\/∃b1 o1 cp z1,aT tm x=.sl b1 o1 0 cp z1)->Dj b t L cap o n N S=some (cc,s,S')->
    ∃v H' nx' ν' F' M' R',hop call ro (aT tm) H nx (.copy z x y)=some (v,H',nx')/\ConX B ro e c S' tm H' nx' ν' F' M' R'/\aJ ν' F' s v/\S'.fr=S.fr:=by
   intro b t L N cap o n sy hb hz hn hL hN hy hxv hcp;subst hz hn;obtain rfl:L=[]:=oK hL;obtain⟨y1,_⟩:=Dm h hN (hg _ _ hy);obtain⟨new,y2,y3⟩:=jit h hN (hg _ _ hy) (fM N.length);have hS:S'=S/\s=.int .i64 0:=by
    unfold Dj at hcp;simp only[Nat.min_zero,Fw,List.take_nil,List.drop_nil,jQ,dZ] at hcp;rw[jpp hb] at hcp;cases hcp;exact⟨rfl,rfl⟩
   obtain⟨rfl,rfl⟩:=hS;refine⟨.int .i64 0,H,nx,ν,F,M,R,?_,h,rfl,rfl⟩;rcases hxv with hxv | ⟨b1,o1,cp,z1,hxv⟩
   ·simp only[hop,y1,hxv,y2]
   ·have ek:(bif N.length.ble 0 then N.length else 0)=0:=by
     rw[aP];by_cases hh:N.length<=0
     ·simp only[hh,bA,aB];omega
     ·simp only[hh,bM,aF]
    simp only[hop,y1,hxv];rw[ek];simp only[y2];rfl
  have hc2:∀ {b:Nat} {t:Ty} {L N:List t.den} {cap:Option Nat} {o n:Nat},Dj b t L cap o n N S=some (cc,s,S')->1<=n\/n=0/\L.length=0:=by
   intro b t L N cap o n hcp;cases hcp;simp only[dT,aN,kD,aP,aL,aH] at hc;rcases hc with hc | hc
   ·exact .inl hc.2
   ·exact .inr hc
  split at hs<;>try (cases hs;done)
  rotate_left
  ·rename_i b sy hx hy;split at hs<;>try (cases hs;done)
   rename_i t L cap hb;obtain⟨hz,hs2⟩:=aR hs;clear hs;rw[aL,aH] at hz;split at hs2<;>try (cases hs2;done)
   rename_i N hN;obtain⟨hxv,hsl⟩:=hg _ _ hx;obtain⟨h0,sz,hd⟩:=h.heads _ _ _ _ (show look e S b=some (.arr t L cap) by unfold look;rw[Rt,hb]);rcases hc2 hs2 with hn1 | ⟨hn0,hL0⟩
   ·rcases hd with⟨_,_,e1,_⟩ | ⟨c',n',e1,_⟩
    ·omega
    ·subst hz;exact arr hb rfl hn1 hN hy (o:=0) (by rw[hxv,e1,sR]) (by omega) hs2
   ·rcases hd with⟨e1,_⟩ | ⟨c',n',e1,_⟩
    ·exact arr0 hb hz hn0 hL0 hN hy (.inl (by rw[hxv,e1])) hs2
    ·exact arr0 hb hz hn0 hL0 hN hy (.inr ⟨_,_,_,_,by rw[hxv,e1,hn0]⟩) hs2
  ·rename_i b o n cp z' sy hx hy;split at hs<;>try (cases hs;done)
   rename_i t L cap hb;obtain⟨hz,hs2⟩:=aR hs;clear hs;simp only[aN,aL,aH] at hz;obtain⟨hz,hz'⟩:=hz;split at hs2<;>try (cases hs2;done)
   rename_i N hN;have hn0:n=0->∃b1 o1 cp z1,aT tm x=.sl b1 o1 0 cp z1\/aT tm x=.nils:=by
    intro e0;subst e0;rcases hg _ _ hx with⟨e1,_⟩ | ⟨c',e1,_,_,len,cp',e2,h5,_⟩
    ·exact⟨0,0,none,0,.inr e1⟩
    ·exact⟨_,_,_,_,.inl e1⟩
   rcases hc2 hs2 with hn1 | ⟨e0,hL0⟩
   rotate_left
   ·obtain⟨b1,o1,cp1,z1,e1⟩:=hn0 e0;exact arr0 hb hz e0 hL0 hN hy (e1.elim (λe=>.inr ⟨_,_,_,_,e⟩) .inl) hs2
   obtain⟨h0,sz,hd⟩:=h.heads _ _ _ _ (show look e S b=some (.arr t L cap) by unfold look;rw[Rt,hb]);rcases hg _ _ hx with⟨_,e1,_⟩ | ⟨c',e1,_,_,len,cp',e2,h5,_⟩
   ·omega
   ·rcases hd with⟨e3,_⟩ | ⟨c2,n',e3,_⟩
    ·rw[e2] at e3;cases e3
    ·rw[e2] at e3;cases e3;subst hz;exact arr hb rfl hn1 hN hy e1 h5 hs2
  rename_i b n o m z' sy hx hy;split at hs<;>try (cases hs;done)
  rename_i t n' L hb;obtain⟨hq,hs2⟩:=aR hs;clear hs;simp only[aN,fB,aL,aH,eH] at hq;obtain⟨⟨⟨rfl,rfl⟩,rfl⟩,hz0⟩:=hq;split at hs2<;>try (cases hs2;done)
  rename_i N hN;cases hs2;simp only[dT,aN,aP,aH] at hc;obtain⟨hN1,hNm⟩:=hc;obtain⟨⟨cp,hxv⟩,hom⟩:=hg _ _ hx;obtain⟨y1,new,y2,y3⟩:=Dm h hN (hg _ _ hy);have hone:=rV (qC t) y3;have hnew:=jK (cV t) y3;obtain⟨E,⟨w,mm,rfl,hL,hm⟩,hp,hupd,_⟩:=h.own hb;obtain⟨hw,hro,_,tc,p4,p5⟩:=hp _ (bF.2 rfl);simp only at hw hro p4 p5;subst hw;have hmm:=jK (cV t) hm;have hle:o*t.size+N.length*t.size<=mm.length:=by
   rw[hmm,hL,<-fU];exact iB _ (by omega)
  have hat:=Ok (H:=H) (b:=(ν b).1) (new:=new) (o:=o*t.size) p5 (by omega);obtain⟨M',hC⟩:=hupd (ν b).1 (.cells mm) _ _ (.fix t n (List.take o L++(N++List.drop (o+N.length) L))) rfl hat ⟨true,_,rfl,by simp;omega,by
   have e1:dQ mm (o*t.size) new=mm.take (o*t.size)++(new++mm.drop ((o+N.length)*t.size)):=by
    unfold dQ;rw[hnew,fU]
   rw[e1];exact tJ (uM (cV t) o hm) (tJ y3 (Ic (cV t) (o+N.length) hm))⟩
  refine⟨.int .i64 N.length,_,nx,ν,F,M',R,?_,hC,rfl,rfl⟩;have e0:N.length.beq 0=false:=by rw[aL];simp;intro h;rw[h] at hN1;simp at hN1
  simp only[hop,y1,hxv,aP,hNm,bA,aB,y2,e0,aF,p4,hro,dP,hle,hone,kH,jP,kJ]
mutual
def SV.sub (b:Nat) (s:SV):SV->SV
 | .own n=>bif n.beq b then s else .own n
 | .agg l=>.agg (SV.subL b s l)
 | .tup l=>.tup (SV.subL b s l)
 | x=>x
def SV.subL (b:Nat) (s:SV):List SV->List SV
 | []=>[]
 | x::l=>SV.sub b s x::SV.subL b s l
end
mutual
def j4w:SV->List Nat
 | .own n=>[n]
 | .agg l=>Kw l
 | _=>[]
def Kw:List SV->List Nat
 | []=>[]
 | x::l=>j4w x++Kw l
end
def SB.sub (b:Nat) (s:SV):SB->SB
 | .lit l=>.lit (SV.subL b s l)
 | x=>x
mutual
def jgb {b:Nat} {s:SV} (hs:∀v,aJ ν F (.own b) v->aJ ν F s v):∀(x:SV) (v:AV),aJ ν F x v->aJ ν F (SV.sub b s x) v
 | .own n,v,h=>by
   simp only[SV.sub];cases hb:n.beq b with
   | false=>exact h
   | true=>
     rw[aL,aH] at hb;subst hb;exact hs v h
 | .agg l,v,⟨m,e1,h⟩=>⟨m,e1,If hs l m h⟩
 | .tup l,v,⟨m,e1,h⟩=>⟨m,e1,If hs l m h⟩
 | .int _ _,v,h=>by simp only[SV.sub];exact h
 | .bool _,v,h=>by simp only[SV.sub];exact h
 | .str _,v,h=>by simp only[SV.sub];exact h
 | .fz _ _,v,h=>by simp only[SV.sub];exact h
 | .fzn _ _,v,h=>by simp only[SV.sub];exact h
 | .fzx _ _,v,h=>by simp only[SV.sub];exact h
 | .view _ _ _ _ _,v,h=>by simp only[SV.sub];exact h
 | .ag _ _ _,v,h=>by simp only[SV.sub];exact h
 | .ptr _ _,v,h=>by simp only[SV.sub];exact h
 | .eptr _ _ _ _,v,h=>by simp only[SV.sub];exact h
 | .aptr _ _ _ _ _ _,v,h=>by simp only[SV.sub];exact h
 | .aptr2 _ _ _ _ _ _ _ _ _ _,v,h=>by simp only[SV.sub];exact h
 | .aview _ _ _ _ _,v,h=>by simp only[SV.sub];exact h
 | .fptr _ _ _,v,h=>by simp only[SV.sub];exact h
 | .sptr _,v,h=>by simp only[SV.sub];exact h
 | .fn _ _ _,v,h=>by simp only[SV.sub];exact h
 | .tt,v,h=>by simp only[SV.sub];exact h
 | .ff,v,h=>by simp only[SV.sub];exact h
 | .nils,v,h=>by simp only[SV.sub];exact h
 | .nilp,v,h=>by simp only[SV.sub];exact h
 | .nilf,v,h=>by simp only[SV.sub];exact h
 | .nili,v,h=>by simp only[SV.sub];exact h
 | .nilm,v,h=>by simp only[SV.sub];exact h
 | .err _,v,h=>by simp only[SV.sub];exact h
 | .emp _,v,h=>by simp only[SV.sub];exact h
 | .mp _,v,h=>by simp only[SV.sub];exact h
 | .cptr _ _ _ _,v,h=>by simp only[SV.sub];exact h
 | .nptr _ _ _ _,v,h=>by simp only[SV.sub];exact h
def If {b:Nat} {s:SV} (hs:∀v,aJ ν F (.own b) v->aJ ν F s v):∀(l:List SV) (m:List AV),bC ν F l m->bC ν F (SV.subL b s l) m
 | [],m,h=>h
 | x::l,m,⟨v,m',e1,h1,h2⟩=>⟨v,m',e1,jgb hs x v h1,If hs l m' h2⟩
end
def Ia {b:Nat} {s:SV} (hs:∀v,aJ ν F (.own b) v->aJ ν F s v):∀ {m:bE} {M:List Ent},gN ν F m M->gN ν F (m.map λx=>(x.1,SB.sub b s x.2)) M
 | [],M,h=>h
 | (n,.lit l)::m,M,⟨E,M',e1,⟨w,c,e2,h1⟩,h2⟩=>⟨E,M',e1,⟨w,c,e2,If hs l c h1⟩,Ia hs h2⟩
 | (n,.arr _ _ _)::m,M,⟨E,M',e1,h1,h2⟩=>⟨E,M',e1,h1,Ia hs h2⟩
 | (n,.fix _ _ _)::m,M,⟨E,M',e1,h1,h2⟩=>⟨E,M',e1,h1,Ia hs h2⟩
 | (n,.mp _ _ _)::m,M,⟨E,M',e1,h1,h2⟩=>⟨E,M',e1,h1,Ia hs h2⟩
def jlz {f:SV->SV} {ct:gV} {n:Nat} {v:SV}:∀ {fr:gV},cR ((fr.map λx=>(x.1,f x.2))++ct) n=some v->cR (fr++ct) n=some v\/∃u,cR (fr++ct) n=some u/\v=f u
 | [],h=>.inl h
 | (k,u)::r,h=>by
   simp only[dA,eW,cR] at h ⊢;cases hb:Nat.beq k n<;>rw[hb] at h<;>simp only[aB,aF] at h ⊢
   ·exact jlz h
   ·cases h;exact .inr ⟨u,rfl,rfl⟩
def Aw:List Nat->St->List SV->St×List SV
 | [],S,ss=>(S,ss)
 | b::bs,S,ss=>match cL S.mv b with
   | some (.arr t L _)=>Aw bs { S with fr:=S.fr.map (λx=>(x.1,SV.sub b (.fz t L) x.2)),mv:=(eM S.mv b).map (λx=>(x.1,SB.sub b (.fz t L) x.2)) } (SV.subL b (.fz t L) ss)
   | _=>Aw bs S ss
def jcp:∀(bs:List Nat) {S:St} {F:aQ} {M R:List Ent} {ss:List SV},ConX B ro e c S tm H nx ν F M R->
  ∃F' M' R',ConX B ro e c (Aw bs S ss).1 tm H nx ν F' M' R'/\(∀x∈F,x∈F')/\∀vs,bC ν F ss vs->bC ν F' (Aw bs S ss).2 vs
 | [],S,F,M,R,ss,h=>⟨F,M,R,h,λ_ h=>h,λ_ h=>h⟩
 | b::bs,S,F,M,R,ss,h=>by
   unfold Aw;split
   ·rename_i t L cap hb;obtain⟨E,hE,hp,_,⟨M1,hM⟩,_⟩:=h.own hb;obtain⟨k1,k2⟩:=Wy (F':=lW E++F) hE (λx hx=>aZ.2 (.inr hx)) (λx hx=>aZ.2 (.inl hx));have hs:∀v,aJ ν (lW E++F) (.own b) v->aJ ν (lW E++F) (.fz t L) v:=λv hv=>by
     obtain⟨rfl,_⟩:=hv;exact⟨hE.1,k1⟩
    have h1:ConX B ro e c { S with fr:=S.fr.map (λx=>(x.1,SV.sub b (.fz t L) x.2)),mv:=(eM S.mv b).map (λx=>(x.1,SB.sub b (.fz t L) x.2)) } tm H nx ν (lW E++F) M1 (E++R):=by
     refine⟨hM.hk,λn v hv=>?_,hM.ov,Ia hs hM.mv,hM.wr,hM.mc,hM.fz,hM.gl⟩;rcases jlz hv with h2 | ⟨u,h2,rfl⟩
     ·exact hM.fr n v h2
     ·exact jgb hs _ _ (hM.fr n u h2)
    obtain⟨F',M',R',q1,q2,q3⟩:=jcp bs (ss:=SV.subL b (.fz t L) ss) h1;exact⟨F',M',R',q1,λx hx=>q2 x (aZ.2 (.inr hx)),λvs hv=>q3 vs (If hs _ _ (jT (λx hx=>aZ.2 (.inr hx)) _ _ hv))⟩
   ·exact jcp bs h
end X
end Go.Vm
