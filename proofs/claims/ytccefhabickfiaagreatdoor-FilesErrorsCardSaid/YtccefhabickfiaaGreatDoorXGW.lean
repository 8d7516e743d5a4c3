/-
  Maps whose keys and values are plain data, on symbolic values.
-/
import Derived.Test.YtccefhabickfiaaGreatDoorXG3
set_option linter.unusedSimpArgs false
set_option linter.unusedVariables false
set_option linter.unusedSectionVars false
set_option linter.unnecessarySimpa false
namespace Go.Vm
namespace X
open W
variable {B:Base} {ro:Nat} {e:Env} {c:Cnv} {S:St} {tm:Tr AV} {H:Tr Blk} {nx:Nat} {ν:Nm} {F:cE} {M R:List Ent}
def ptB:SV->Option (Nat×Nat)
 | .ptr b o=>some (b,o)
 | .nptr b _ _ f=>some (b,f)
 | .cptr b _ _ _=>some (b,0)
 | _=>none
theorem jdv {s:SV} {b o:Nat} (h:ptB s=some (b,o)) {v:AV} (hv:bO ν F s v):v=.ptr (ν b).1 o:=by
 cases s<;>simp only[ptB,reduceCtorEq,bA,bK] at h
 ·obtain⟨rfl,rfl⟩:=h;exact hv
 ·obtain⟨rfl,rfl⟩:=h;exact hv.1
 ·obtain⟨rfl,rfl⟩:=h;exact hv.1
def Ty.flatK:Ty->Bool
 | .prod a b=>a.flatK&&b.flatK
 | .arr _ t=>t.flatK
 | .sl _ | .slx _=>false
 | _=>true
def Ty.kc:Ty->List Nat
 | .int _=>[1]
 | .bool=>[0]
 | .str=>[2]
 | .unit=>[]
 | .prod a b=>a.kc++b.kc
 | .arr n t=>(List.replicate n t.kc).flatten
 | .sl _ | .slx _=>[9]
def leq {α:Type} (f:α->α->Bool):List α->List α->Bool
 | [],[]=>true
 | a::l,b::m=>bif f a b then leq f l m else false
 | _,_=>false
def Ty.eqb:(t:Ty)->t.den->t.den->Bool
 | .int _,x,y=>decide ((x:Int)=y)
 | .bool,x,y=>(x:Bool)==y
 | .str,x,y=>uK x y
 | .unit,_,_=>true
 | .prod a b,x,y=>bif a.eqb x.1 y.1 then b.eqb x.2 y.2 else false
 | .arr _ t,x,y=>leq t.eqb x y
 | .sl _,_,_ | .slx _,_,_=>false
def eU (k v:Ty) (x:k.den):List (k.den×v.den)->Option v.den
 | []=>none
 | a::L=>bif k.eqb x a.1 then some a.2 else eU k v x L
def kX (k v:Ty) (x:k.den) (y:v.den):List (k.den×v.den)->List (k.den×v.den)
 | []=>[(x,y)]
 | a::L=>bif k.eqb x a.1 then(x,y)::L else a::kX k v x y L
theorem jpj:∀(t:Ty),t.flatK=true->t.kc.length=t.size
 | .int _,_=>rfl
 | .bool,_=>rfl
 | .str,_=>rfl
 | .unit,_=>rfl
 | .prod a b,h=>by
   simp only[Ty.flatK,aW] at h;simp only[Ty.kc,Ty.size,cZ,jpj a h.1,jpj b h.2]
 | .arr n t,h=>by
   simp only[Ty.flatK] at h;have:=jpj t h;simp[Ty.kc,Ty.size,this]
theorem joh:∀(t:Ty),t.flatK=true->∀(x y:t.den) (l m:List AV),cT F t x l->cT F t y m->∀ks l' m',mD (t.kc++ks) (l++l') (m++m')=bif t.eqb x y then mD ks l' m' else some false
 | .int k,_,x,y,l,m,h1,h2,ks,l',m'=>by
   simp only[cT] at h1 h2;subst h1;subst h2;have e1:rV k k=true:=t7.2 rfl;have e2:sZ 1 (.int k x) (.int k y)=some (decide ((x:Int)=y)):=by
    simp only[sZ,e1,cM,jbm];rfl
   show mD (1::ks) (.int k x::l') (.int k y::m')=_;simp only[mD,e2,Ty.eqb];cases decide ((x:Int)=y)<;>rfl
 | .bool,_,x,y,l,m,h1,h2,ks,l',m'=>by
   simp only[cT] at h1 h2;subst h1;subst h2;simp only[Ty.kc,fN,fB,mD,sZ,Ty.eqb];cases x<;>cases y<;>rfl
 | .str,_,x,y,l,m,h1,h2,ks,l',m'=>by
   simp only[cT] at h1 h2;subst h1;subst h2;simp only[Ty.kc,fN,fB,mD,sZ,Ty.eqb];cases uK x y<;>rfl
 | .unit,_,x,y,l,m,h1,h2,ks,l',m'=>by
   simp only[cT] at h1 h2;subst h1;subst h2;rfl
 | .prod a b,hf,x,y,l,m,⟨l1,l2,e1,p1,p2⟩,⟨m1,m2,e2,q1,q2⟩,ks,l',m'=>by
   simp only[Ty.flatK,aW] at hf;subst e1;subst e2;simp only[Ty.kc,dX];rw[joh a hf.1 _ _ _ _ p1 q1,joh b hf.2 _ _ _ _ p2 q2];simp only[Ty.eqb];cases a.eqb x.1 y.1<;>rfl
 | .arr n t,hf,x,y,l,m,⟨n1,p⟩,⟨n2,q⟩,ks,l',m'=>by
   simp only[Ty.flatK] at hf;have key:∀(x y:List t.den) (l m:List AV),x.length=y.length->eM (cT F t) x l->eM (cT F t) y m->mD ((List.replicate x.length t.kc).flatten++ks) (l++l') (m++m')=bif leq t.eqb x y then mD ks l' m' else some false:=by
    intro x;induction x with
    | nil=>
      intro y l m hl p q;cases y with
      | cons _ _=>simp at hl
      | nil=>
        simp only[eM] at p q;subst p;subst q;rfl
    | cons a x ih=>
      intro y l m hl p q;cases y with
      | nil=>simp at hl
      | cons b y=>
        obtain⟨l1,l2,e1,p1,p2⟩:=p;obtain⟨m1,m2,e2,q1,q2⟩:=q;subst e1;subst e2;simp only[cL,qe7,kH,dX];rw[joh t hf _ _ _ _ p1 q1,ih y l2 m2 (by simpa using hl) p2 q2];simp only[leq];cases t.eqb a b<;>rfl
   have:=key x y l m (n1.trans n2.symm) p q;rw[n1] at this;exact this
theorem jsf {t:Ty} (hf:t.flatK=true) {x y:t.den} {a b:AV} (ha:Rel F t x a) (hb:Rel F t y b):sF t.agg t.kc a b=some (t.eqb x y):=by
 have fin:∀ {l m:List AV},cT F t x l->cT F t y m->mD t.kc l m=some (t.eqb x y):=λh1 h2=>by
  have:=joh t hf _ _ _ _ h1 h2 [] [] [];simp only[kO] at this;rw[this];cases t.eqb x y<;>rfl
 unfold Rel at ha hb;unfold sF;cases hg:t.agg with
 | true=>
   rw[hg] at ha hb;obtain⟨l,rfl,ha⟩:=ha;obtain⟨m,rfl,hb⟩:=hb;simp only[aH,gZ _ _ _ ha,gZ _ _ _ hb,jpj t hf,iW,kP];exact fin ha hb
 | false=>
   rw[hg] at ha hb;exact fin ha hb
theorem jts {k v:Ty} (hf:k.flatK=true) {x:k.den} {a:AV} (ha:Rel F k x a):∀ {L:List (k.den×v.den)} {m:List (AV×AV)} (i:Nat),H7 F k v L m->
  ∃r:Option (Nat×AV),jan k.agg k.kc a m i=some (r.map λz=>(i+z.1,z.2))/\((r=none/\eU k v x L=none)\/∃j b y,r=some (j,b)/\eU k v x L=some y/\Rel F v y b)/\
   ∀y b,Rel F v y b->H7 F k v (kX k v x y L) (y5 a b m r)
 | [],m,i,h=>by
   simp only[H7] at h;subst h;exact⟨none,rfl,.inl ⟨rfl,rfl⟩,λy b hb=>⟨a,b,[],rfl,ha,hb,rfl⟩⟩
 | p::L,m,i,⟨a',b',m',e,h1,h2,h3⟩=>by
   subst e;have hq:=jsf hf ha h1;cases hx:k.eqb x p.1 with
   | true=>
     rw[hx] at hq;refine⟨some (0,b'),by simp only[jan,hq];rfl,.inr ⟨0,b',p.2,rfl,by simp only[eU,hx,aH],h2⟩,λy b hb=>?_⟩;simp only[kX,hx,aH];exact⟨a,b,m',rfl,ha,hb,h3⟩
   | false=>
     rw[hx] at hq;obtain⟨r,k1,k2,k3⟩:=jts hf ha (i+1) h3;refine⟨r.map λz=>(z.1+1,z.2),?_,?_,λy b hb=>?_⟩
     ·simp only[jan,hq,k1];cases r with
      | none=>rfl
      | some z=>simp only[iS,bA,bK,uT];omega
     ·rcases k2 with⟨rfl,k2⟩ | ⟨j,b,y,rfl,k2,k4⟩
      ·exact .inl ⟨rfl,by simp only[eU,hx,aJ,k2]⟩
      ·exact .inr ⟨j+1,b,y,rfl,by simp only[eU,hx,aJ,k2],k4⟩
     ·simp only[kX,hx,aJ];have:=k3 y b hb;cases r with
      | none=>exact⟨a',b',_,rfl,h1,h2,this⟩
      | some z=>exact⟨a',b',_,rfl,h1,h2,this⟩
def jjn:List Nat->List Nat->Bool
 | [],[]=>true
 | a::l,b::m=>a.beq b&&jjn l m
 | _,_=>false
theorem jtk:∀ {l m:List Nat},jjn l m=true->l=m
 | [],[],_=>rfl
 | a::l,b::m,h=>by
   simp only[jjn,aW,bQ,aQ] at h;rw[h.1,jtk h.2]
 | [],_::_,h=>by cases h
 | _::_,[],h=>by cases h
def j2l (g:Opd->Option SV):Option Opd->Bool
 | none=>true
 | some o=>match g o with
   | some (.int _ _)=>true
   | _=>false
def ju7:AV->Option SV
 | .agg l=>(jao l).map SV.agg
 | a=>jk5 a
theorem kk9 (hν:∀b,ν (gB+b)=(b,.nils)) {a:AV} {s:SV} (h:ju7 a=some s):bO ν F s a:=by
 unfold ju7 at h;split at h
 ·rename_i l;cases hl:jao l with
  | none=>rw[hl] at h;cases h
  | some r=>
    rw[hl] at h;cases h;exact⟨l,rfl,jgz hν hl⟩
 ·exact ju6 hν h
def j2b (ok:Bool) (v:Ty) (z:v.den) (y:Option v.den):SV:=bif ok then .tup [D0 v (y.getD z),.bool y.isSome] else D0 v (y.getD z)
theorem j4q {b:Nat} {x:SB}:∀ {M:dT},gC M b=some x->wJ M b x=M
 | (k,v)::r,h=>by
   simp only[gC] at h;simp only[wJ];cases hk:Nat.beq k b with
   | true=>
     rw[hk] at h;simp only[aH,bA] at h ⊢;rw[wD hk];subst h;rfl
   | false=>
     rw[hk] at h;simp only[aJ] at h ⊢;rw[j4q h]
def cpA (b:Nat) (t:Ty) (L:List t.den) (cap:Option Nat) (o n:Nat) (N:List t.den) (S:St):NS:=
 some (some ((1:Nat).ble (List.length (α:=t.den) N)&&(1:Nat).ble n||Nat.beq n 0&&Nat.beq (List.length (α:=t.den) L) 0),.int .i64 (Int.ofNat (min (List.length (α:=t.den) N) n)),{ S with mv:=wJ S.mv b (.arr t (List.take o L++(List.take (min (List.length (α:=t.den) N) n) N++List.drop (o+min (List.length (α:=t.den) N) n) L)) cap) })
def jfw (g:Opd->Option SV) (e:Env) (S:St) (q:Bool) (hn:Option Ty):I->NS
 | .mkmap r=>match hn with
   | some (.prod k v)=>bif k.flatK&&fresh e S&&j2l g r then some (none,.mp S.nc,tH S (.mp k v [])) else none
   | _=>none
 | .mlook agg ks z ok x k=>match g x,g k,ju7 z with
   | some (.mp b),some sk,some sz=>match look e S b with
     | some (.mp kt vt L)=>bif kt.flatK&&vt.ok&&jjn ks kt.kc&&(agg==kt.agg) then(match jdq D6 kt sk,jdq D6 vt sz with
       | some x,some z=>some (none,j2b ok vt z (eU kt vt x L),S)
       | _,_=>none) else none
     | _=>none
   | _,_,_=>none
 | .mset agg ks x k v=>bif q then none else match g x,g k,g v with
   | some (.mp b),some sk,some sv=>match gC S.mv b with
     | some (.mp kt vt L)=>bif kt.flatK&&jjn ks kt.kc&&(agg==kt.agg) then(match jdq D6 kt sk,jdq D6 vt sv with
       | some x,some y=>some (none,.tup [],{ S with mv:=wJ S.mv b (.mp kt vt (kX kt vt x y L)) })
       | _,_=>none) else none
     | _=>none
   | _,_,_=>none
 | .copy z x y=>bif q then none else match g x,g y with
   | some (.aview b n o m z'),some sy=>match gC S.mv b with
     | some (.fix t n' L)=>bif z.beq t.size&&z'.beq t.size&&n.beq n'&& !(z.beq 0) then(match C4 (look e S) t sy with
       | some N=>some (some ((1:Nat).ble (List.length (α:=t.den) N)&&(List.length (α:=t.den) N).ble m),.int .i64 (Int.ofNat (List.length (α:=t.den) N)),{ S with mv:=wJ S.mv b (.fix t n' (List.take o L++(N++List.drop (o+List.length (α:=t.den) N) L))) })
       | none=>none) else none
     | _=>none
   | some (.own b),some sy=>match gC S.mv b with
     | some (.arr t L cap)=>bif z.beq t.size then(match C4 (look e S) t sy with
       | some N=>cpA b t L cap 0 (List.length (α:=t.den) L) N S
       | none=>none) else none
     | _=>none
   | some (.view b o n _ z'),some sy=>match gC S.mv b with
     | some (.arr t L cap)=>bif z.beq t.size&&z'.beq t.size then(match C4 (look e S) t sy with
       | some N=>cpA b t L cap o n N S
       | none=>none) else none
     | _=>none
   | _,_=>none
 | _=>none
theorem kn5 {α:Type} {z:Nat} {P:α->List AV->Prop} (hP:∀x l,P x l->l.length=z) {F':cE} (hAt:∀x∈F',x.1<nx/\x.2.At H x.1) {L:List α} {v:AV} (h:sE F' z (eM P) L v) {k:Nat} (hk:k<=L.length):
  ∃new,oB z H k v=some new/\eM P (L.take k) new:=by
 rcases h with⟨rfl,rfl⟩ | ⟨b,o,cap,l,rfl,h1,h2,h3,h4⟩
 ·obtain rfl:k=0:=by simpa using hk
  exact⟨[],rfl,rfl⟩
 ·obtain⟨tc,k1,k2⟩:=(hAt _ h1).2;have hkz:k*z<=L.length*z:=oT _ hk;have h3':o+k*z<=l.length:=by omega
  refine⟨(l.drop o).take (k*z),?_,?_⟩
  ·simp only[oB,iW,bE,hk,aU,rN,aH,k1,h3',take_at (H:=H) (b:=0) k2 _ _ h3']
  ·have:=Z5 hP k h4;rwa[P1,m5 hkz] at this
theorem jz2 (h:ConX B ro e c S tm H nx ν F M R) {t:Ty} {s:SV} {x:List t.den} (hd:C4 (look e S) t s=some x) {v:AV} (hv:bO ν F s v) {k:Nat} (hk:k<=x.length):
  ∃new,oB t.size H k v=some new/\eM (cT F t) (x.take k) new:=by
 unfold C4 at hd;split at hd
 ·rename_i s;split at hd<;>try (cases hd;done)
  cases hd;simp only[bO] at hv;subst hv;have h2:k<=s.length:=by simpa using hk
  refine⟨(s.take k).map λc=>AV.int .u8 (.ofNat c),?_,?_⟩
  ·simp only[oB,Ty.size,iW,bE,h2,aU,rN,aH]
  ·rw[<-qhz];exact jwc F _
 ·exact kn5 (P:=cT F t) (gZ t) h.allAt (j3o (λx hx=>bU.2 (.inl hx)) h.ownR hd hv) hk
theorem j2c {ok:Bool} {v:Ty} (hv:v.ok=true) {z:v.den} {y:Option v.den} {a:AV} (h:Rel F v (y.getD z) a):bO ν F (j2b ok v z y) (jbv ok a y.isSome):=by
 have:=jfm (ν:=ν) hv h;cases ok with
 | true=>exact⟨_,rfl,a,_,rfl,this,.bool _,[],rfl,rfl,rfl⟩
 | false=>exact this
theorem jpu {call:FuncId->List AV->Tr Blk->Nat->Nat->eQ} {g:Opd->Option SV} (hg:∀x s,g x=some s->bO ν F s (cP tm x)) {q:Bool} (h:ConX B ro e c S tm H nx ν F M R) {hn:Option Ty} {i:I} {cc:Option Bool} {s:SV} {S':St} (hs:jfw g e S q hn i=some (cc,s,S')) (hc:kG cc=true):
  ∃v H' nx' ν' F' M' R',hop call (bif q then nx else ro) (cP tm) H nx i=some (v,H',nx')/\ConX B ro e c S' tm H' nx' ν' F' M' R'/\bO ν' F' s v/\S'.fr=S.fr:=by
 cases i<;>simp only[jfw] at hs<;>try (cases hs;done)
 case mkmap r=>
  split at hs<;>try (cases hs;done)
  rename_i k v;obtain⟨hb,hs⟩:=cF hs;simp only[aW] at hb;obtain⟨⟨hk,hf⟩,hr⟩:=hb;cases hs;have h':=h.name hf (nx,.nils);refine⟨.mp nx,H.set nx (.mp []),nx+1,ν.upd S.nc (nx,.nils),F,⟨nx,true,.mp []⟩::M,R,?_,⟨?_,h'.fr,h'.ov,⟨_,M,rfl,⟨true,[],by rw[lE],rfl⟩,h'.mv⟩,λx hx=>by rcases bJ.1 hx with rfl | hx;rfl;exact h.wr x hx,h'.mc,h.fz,h'.gl⟩,?_,rfl⟩
  ·cases r with
   | none=>simp only[hop,sL,jbx]
   | some o=>
     simp only[j2l] at hr;split at hr<;>try (cases hr;done)
     rename_i ho;have:=hg _ _ ho;simp only[bO] at this;simp only[hop,iS,this,jbx]
  ·exact h.hk.new (.mp []) (.mp []) (by simp only[HB.At];rw[Tr.get_set,aK rfl])
  ·simp only[bO,lE]
 case mlook agg ks z ok x k=>
  split at hs<;>try (cases hs;done)
  rename_i b sk sz hx hk hz;split at hs<;>try (cases hs;done)
  rename_i kt vt L hb;clear hc;obtain⟨hc,hs2⟩:=cF hs;clear hs;simp only[aW,beq_iff_eq] at hc;obtain⟨⟨⟨hf,hvo⟩,hks⟩,rfl⟩:=hc;have hks:=jtk hks;subst hks;split at hs2<;>try (cases hs2;done)
  rename_i xk zv hpk hpz;cases hs2;have rk:=jlc (F:=F) B5 hpk (hg _ _ hk);have rz:=jlc (F:=F) B5 hpz (kk9 h.gl.1 hz);have hxv:=hg _ _ hx;simp only[bO] at hxv;obtain⟨F',E,⟨w,m,rfl,hm⟩,hF,hE⟩:=h.look hb;have hm:H7 F kt vt L m:=jnm (λx hx=>by rcases hF with rfl | rfl;exact hx;cases hx) hm;have hat:HB.At H (ν b).1 (.mp m):=(hE _ (cD.2 rfl)).2;simp only[HB.At] at hat;obtain⟨r,k1,k2,_⟩:=jts hf rk 0 hm;have hself:(sF kt.agg kt.kc (cP tm k) (cP tm k)).isSome=true:=by rw[jsf hf rk rk];rfl
  rcases k2 with⟨rfl,k2⟩ | ⟨j,bv,y,rfl,k2,k4⟩
  ·refine⟨jbv ok z false,H,nx,ν,F,M,R,?_,h,?_,rfl⟩
   ·simp only[hop,hself,aH,hxv,hat,k1,sL]
   ·rw[k2];exact j2c (y:=none) hvo rz
  ·refine⟨jbv ok bv true,H,nx,ν,F,M,R,?_,h,?_,rfl⟩
   ·simp only[hop,hself,aH,hxv,hat,k1,iS]
   ·rw[k2];exact j2c (y:=some y) hvo k4
 case mset agg ks x k v=>
  cases q with
  | true=>cases hs
  | false=>
  simp only[aJ] at hs ⊢;split at hs<;>try (cases hs;done)
  rename_i b sk sv hx hk hv;split at hs<;>try (cases hs;done)
  rename_i kt vt L hb;clear hc;obtain⟨hc,hs2⟩:=cF hs;clear hs;simp only[aW,beq_iff_eq] at hc;obtain⟨⟨hf,hks⟩,rfl⟩:=hc;have hks:=jtk hks;subst hks;split at hs2<;>try (cases hs2;done)
  rename_i xk yv hpk hpv;cases hs2;have rk:=jlc (F:=F) B5 hpk (hg _ _ hk);have rv:=jlc (F:=F) B5 hpv (hg _ _ hv);have hxv:=hg _ _ hx;simp only[bO] at hxv;obtain⟨E,⟨w,m,rfl,hm⟩,hp,hupd,_⟩:=h.own hb;obtain⟨hw,hro,_,hat⟩:=hp _ (cD.2 rfl);simp only at hw hro hat;subst hw;simp only[HB.At] at hat;obtain⟨r,k1,_,k3⟩:=jts hf rk 0 hm;have hself:(sF kt.agg kt.kc (cP tm k) (cP tm k)).isSome=true:=by rw[jsf hf rk rk];rfl
  have e0:(r.map λz=>(0+z.1,z.2))=r:=by cases r<;>simp
  rw[e0] at k1;obtain⟨M',hC⟩:=hupd (ν b).1 (.mp m) (.mp (y5 (cP tm k) (cP tm v) m r)) (.mp (y5 (cP tm k) (cP tm v) m r)) (.mp kt vt (kX kt vt xk yv L)) rfl (by simp only[HB.At];rw[Tr.get_set,aK rfl]) ⟨true,_,rfl,k3 _ _ rv⟩;refine⟨.tup [],H.set (ν b).1 (.mp (y5 (cP tm k) (cP tm v) m r)),nx,ν,F,M',R,?_,hC,⟨[],rfl,rfl⟩,rfl⟩;simp only[hop,hxv,hat,k1,hself,rN,bE,hro,aU,aH,sR]
 case copy z x y=>
  cases q with
  | true=>cases hs
  | false=>
  simp only[aJ] at hs ⊢
  have arr:∀ {b:Nat} {t:Ty} {L N:List t.den} {cap:Option Nat} {o n:Nat} {sy:SV} {cp:Option Nat},gC S.mv b=some (.arr t L cap)->z=t.size->1<=n->C4 (look e S) t sy=some N->g y=some sy->
    cP tm x=.sl (ν b).1 (o*z) n cp z->o+n<=L.length->cpA b t L cap o n N S=some (cc,s,S')->
    ∃v H' nx' ν' F' M' R',hop call ro (cP tm) H nx (.copy z x y)=some (v,H',nx')/\ConX B ro e c S' tm H' nx' ν' F' M' R'/\bO ν' F' s v/\S'.fr=S.fr:=by
   intro b t L N cap o n sy cp hb hz hnn hN hy hxv hon hcp;subst hz;cases hcp;simp only[kG,aW,pC,bE,bQ,aQ] at hc;obtain⟨hN1,hn1⟩:1<=N.length/\1<=n:=by
    rcases hc with hc | hc
    ·exact hc
    ·omega
   generalize hk:min N.length n=k;have hk1:k<=N.length:=by omega
   have hk2:k<=n:=by omega
   have hk0:1<=k:=by omega
   obtain⟨y1,_⟩:=je6 h hN (hg _ _ hy);obtain⟨new,y2,y3⟩:=jz2 h hN (hg _ _ hy) hk1;have hone:=I2 (B6 t) y3;have hnew:=rR (gZ t) y3;rw[nM,m5 hk1] at hnew;obtain⟨E,⟨h0,hE⟩,hp,hupd,_⟩:=h.own hb;rcases hE with⟨hd,rfl⟩ | ⟨w,mm,rfl,hd,hm,ha⟩
   ·rcases hd with⟨_,_,e1,_⟩ | ⟨_,_,_,e1,_⟩
    ·omega
    ·cases e1
   obtain⟨hw,hro,_,tc,p4,p5⟩:=hp _ (cD.2 rfl);simp only at hw hro p4 p5;subst hw;rcases hd with⟨_,e1,_⟩ | ⟨c',n',e1,e2,hle,g3,g4⟩
   ·cases e1
   cases e2;have hkz:(o+k)*t.size<=L.length*t.size:=oT _ (by omega);rw[mQ] at hkz;have hat:=jnh (H:=H) (b:=(ν b).1) (new:=new) (o:=o*t.size) p5 (by omega);have hlen:(List.take o L++(List.take k N++List.drop (o+k) L)).length=L.length:=by simp;omega
   have hsl:(jV mm (o*t.size) new).length=mm.length:=jhi (by omega);obtain⟨M',hC⟩:=hupd (ν b).1 (.cells mm) _ _ (.arr t (List.take o L++(List.take k N++List.drop (o+k) L)) cap) rfl hat ⟨h0,.inr ⟨true,_,rfl,by
    rw[hlen,hsl];exact .inr ⟨c',mm.length,e1,rfl,hle,g3,g4⟩,by
    rw[hlen,j40 (by omega) (by omega)];have e3:jV (mm.take (L.length*t.size)) (o*t.size) new=(mm.take (L.length*t.size)).take (o*t.size)++(new++(mm.take (L.length*t.size)).drop ((o+k)*t.size)):=by
     unfold jV;rw[hnew,mQ]
    rw[e3];exact U2 (Z5 (gZ t) o hm) (U2 y3 (jiw (gZ t) (o+k) hm)),jsh ha hone⟩⟩
   refine⟨.int .i64 k,_,nx,ν,F,M',R,?_,hC,rfl,rfl⟩;have e0:k.beq 0=false:=by rw[bQ];simp;omega
   have ek:(bif N.length.ble n then N.length else n)=k:=by
    rw[bE];by_cases hh:N.length<=n
    ·simp only[hh,aU,aH];omega
    ·simp only[hh,aT,aJ];omega
   have hle2:o*t.size+k*t.size<=mm.length:=by omega
   simp only[hop,y1,hxv];rw[ek];simp only[y2,e0,aJ,p4,hro,iW,bE,hle2,aU,hone,kP,aH,rY,sR]
  have arr0:∀ {b:Nat} {t:Ty} {L N:List t.den} {cap:Option Nat} {o n:Nat} {sy:SV},gC S.mv b=some (.arr t L cap)->z=t.size->n=0->L.length=0->C4 (look e S) t sy=some N->g y=some sy->
    (cP tm x=.nils\/∃b1 o1 cp z1,cP tm x=.sl b1 o1 0 cp z1)->cpA b t L cap o n N S=some (cc,s,S')->
    ∃v H' nx' ν' F' M' R',hop call ro (cP tm) H nx (.copy z x y)=some (v,H',nx')/\ConX B ro e c S' tm H' nx' ν' F' M' R'/\bO ν' F' s v/\S'.fr=S.fr:=by
   intro b t L N cap o n sy hb hz hn hL hN hy hxv hcp;subst hz hn;obtain rfl:L=[]:=tJ hL;obtain⟨y1,_⟩:=je6 h hN (hg _ _ hy);obtain⟨new,y2,y3⟩:=jz2 h hN (hg _ _ hy) (eW N.length);have hS:S'=S/\s=.int .i64 0:=by
    unfold cpA at hcp;simp only[Nat.min_zero,qg1,List.take_nil,List.drop_nil,kO,fB] at hcp;rw[j4q hb] at hcp;cases hcp;exact⟨rfl,rfl⟩
   obtain⟨rfl,rfl⟩:=hS;refine⟨.int .i64 0,H,nx,ν,F,M,R,?_,h,rfl,rfl⟩;rcases hxv with hxv | ⟨b1,o1,cp,z1,hxv⟩
   ·simp only[hop,y1,hxv,y2]
   ·have ek:(bif N.length.ble 0 then N.length else 0)=0:=by
     rw[bE];by_cases hh:N.length<=0
     ·simp only[hh,aU,aH];omega
     ·simp only[hh,aT,aJ]
    simp only[hop,y1,hxv];rw[ek];simp only[y2];rfl
  have hc2:∀ {b:Nat} {t:Ty} {L N:List t.den} {cap:Option Nat} {o n:Nat},cpA b t L cap o n N S=some (cc,s,S')->1<=n\/n=0/\L.length=0:=by
   intro b t L N cap o n hcp;cases hcp;simp only[kG,aW,pC,bE,bQ,aQ] at hc;rcases hc with hc | hc
   ·exact .inl hc.2
   ·exact .inr hc
  split at hs<;>try (cases hs;done)
  rotate_left
  ·rename_i b sy hx hy;split at hs<;>try (cases hs;done)
   rename_i t L cap hb;obtain⟨hz,hs2⟩:=cF hs;clear hs;rw[bQ,aQ] at hz;split at hs2<;>try (cases hs2;done)
   rename_i N hN;obtain⟨hxv,hsl⟩:=hg _ _ hx;obtain⟨h0,sz,hd⟩:=h.heads _ _ _ _ (show look e S b=some (.arr t L cap) by unfold look;rw[jpr,hb]);rcases hc2 hs2 with hn1 | ⟨hn0,hL0⟩
   ·rcases hd with⟨_,_,e1,_⟩ | ⟨c',n',e1,_⟩
    ·omega
    ·subst hz;exact arr hb rfl hn1 hN hy (o:=0) (by rw[hxv,e1,P0]) (by omega) hs2
   ·rcases hd with⟨e1,_⟩ | ⟨c',n',e1,_⟩
    ·exact arr0 hb hz hn0 hL0 hN hy (.inl (by rw[hxv,e1])) hs2
    ·exact arr0 hb hz hn0 hL0 hN hy (.inr ⟨_,_,_,_,by rw[hxv,e1,hn0]⟩) hs2
  ·rename_i b o n cp z' sy hx hy;split at hs<;>try (cases hs;done)
   rename_i t L cap hb;obtain⟨hz,hs2⟩:=cF hs;clear hs;simp only[aW,bQ,aQ] at hz;obtain⟨hz,hz'⟩:=hz;split at hs2<;>try (cases hs2;done)
   rename_i N hN;have hn0:n=0->∃b1 o1 cp z1,cP tm x=.sl b1 o1 0 cp z1\/cP tm x=.nils:=by
    intro e0;subst e0;rcases hg _ _ hx with⟨e1,_⟩ | ⟨c',e1,_,_,len,cp',e2,h5,_⟩
    ·exact⟨0,0,none,0,.inr e1⟩
    ·exact⟨_,_,_,_,.inl e1⟩
   rcases hc2 hs2 with hn1 | ⟨e0,hL0⟩
   rotate_left
   ·obtain⟨b1,o1,cp1,z1,e1⟩:=hn0 e0;exact arr0 hb hz e0 hL0 hN hy (e1.elim (λe=>.inr ⟨_,_,_,_,e⟩) .inl) hs2
   obtain⟨h0,sz,hd⟩:=h.heads _ _ _ _ (show look e S b=some (.arr t L cap) by unfold look;rw[jpr,hb]);rcases hg _ _ hx with⟨_,e1,_⟩ | ⟨c',e1,_,_,len,cp',e2,h5,_⟩
   ·omega
   ·rcases hd with⟨e3,_⟩ | ⟨c2,n',e3,_⟩
    ·rw[e2] at e3;cases e3
    ·rw[e2] at e3;cases e3;subst hz;exact arr hb rfl hn1 hN hy e1 h5 hs2
  rename_i b n o m z' sy hx hy;split at hs<;>try (cases hs;done)
  rename_i t n' L hb;obtain⟨hq,hs2⟩:=cF hs;clear hs;simp only[aW,kL,bQ,aQ,iU] at hq;obtain⟨⟨⟨rfl,rfl⟩,rfl⟩,hz0⟩:=hq;split at hs2<;>try (cases hs2;done)
  rename_i N hN;cases hs2;simp only[kG,aW,bE,aQ] at hc;obtain⟨hN1,hNm⟩:=hc;obtain⟨⟨cp,hxv⟩,hom⟩:=hg _ _ hx;obtain⟨y1,new,y2,y3⟩:=je6 h hN (hg _ _ hy);have hone:=I2 (B6 t) y3;have hnew:=rR (gZ t) y3;obtain⟨E,⟨w,mm,rfl,hL,hm⟩,hp,hupd,_⟩:=h.own hb;obtain⟨hw,hro,_,tc,p4,p5⟩:=hp _ (cD.2 rfl);simp only at hw hro p4 p5;subst hw;have hmm:=rR (gZ t) hm;have hle:o*t.size+N.length*t.size<=mm.length:=by
   rw[hmm,hL,<-mQ];exact oT _ (by omega)
  have hat:=jnh (H:=H) (b:=(ν b).1) (new:=new) (o:=o*t.size) p5 (by omega);obtain⟨M',hC⟩:=hupd (ν b).1 (.cells mm) _ _ (.fix t n (List.take o L++(N++List.drop (o+N.length) L))) rfl hat ⟨true,_,rfl,by simp;omega,by
   have e1:jV mm (o*t.size) new=mm.take (o*t.size)++(new++mm.drop ((o+N.length)*t.size)):=by
    unfold jV;rw[hnew,mQ]
   rw[e1];exact U2 (Z5 (gZ t) o hm) (U2 y3 (jiw (gZ t) (o+N.length) hm))⟩
  refine⟨.int .i64 N.length,_,nx,ν,F,M',R,?_,hC,rfl,rfl⟩;have e0:N.length.beq 0=false:=by rw[bQ];simp;intro h;rw[h] at hN1;simp at hN1
  simp only[hop,y1,hxv,bE,hNm,aU,aH,y2,e0,aJ,p4,hro,iW,hle,hone,kP,rY,sR]
mutual
def SV.sub (b:Nat) (s:SV):SV->SV
 | .own n=>bif n.beq b then s else .own n
 | .agg l=>.agg (SV.subL b s l)
 | .tup l=>.tup (SV.subL b s l)
 | x=>x
def SV.subL (b:Nat) (s:SV):List SV->List SV
 | []=>[]
 | x::l=>SV.sub b s x::SV.subL b s l
end
mutual
def klp:SV->List Nat
 | .own n=>[n]
 | .agg l=>jlb l
 | _=>[]
def jlb:List SV->List Nat
 | []=>[]
 | x::l=>klp x++jlb l
end
def SB.sub (b:Nat) (s:SV):SB->SB
 | .lit l=>.lit (SV.subL b s l)
 | x=>x
mutual
theorem jx4 {b:Nat} {s:SV} (hs:∀v,bO ν F (.own b) v->bO ν F s v):∀(x:SV) (v:AV),bO ν F x v->bO ν F (SV.sub b s x) v
 | .own n,v,h=>by
   simp only[SV.sub];cases hb:n.beq b with
   | false=>exact h
   | true=>
     rw[bQ,aQ] at hb;subst hb;exact hs v h
 | .agg l,v,⟨m,e1,h⟩=>⟨m,e1,jiy hs l m h⟩
 | .tup l,v,⟨m,e1,h⟩=>⟨m,e1,jiy hs l m h⟩
 | .int _ _,v,h=>by simp only[SV.sub];exact h
 | .bool _,v,h=>by simp only[SV.sub];exact h
 | .str _,v,h=>by simp only[SV.sub];exact h
 | .fz _ _,v,h=>by simp only[SV.sub];exact h
 | .fzn _ _,v,h=>by simp only[SV.sub];exact h
 | .fzx _ _,v,h=>by simp only[SV.sub];exact h
 | .view _ _ _ _ _,v,h=>by simp only[SV.sub];exact h
 | .ag _ _ _,v,h=>by simp only[SV.sub];exact h
 | .ptr _ _,v,h=>by simp only[SV.sub];exact h
 | .eptr _ _ _ _,v,h=>by simp only[SV.sub];exact h
 | .aptr _ _ _ _ _ _,v,h=>by simp only[SV.sub];exact h
 | .aptr2 _ _ _ _ _ _ _ _ _ _,v,h=>by simp only[SV.sub];exact h
 | .aview _ _ _ _ _,v,h=>by simp only[SV.sub];exact h
 | .fptr _ _ _,v,h=>by simp only[SV.sub];exact h
 | .sptr _,v,h=>by simp only[SV.sub];exact h
 | .fn _ _ _,v,h=>by simp only[SV.sub];exact h
 | .tt,v,h=>by simp only[SV.sub];exact h
 | .ff,v,h=>by simp only[SV.sub];exact h
 | .nils,v,h=>by simp only[SV.sub];exact h
 | .nilp,v,h=>by simp only[SV.sub];exact h
 | .nilf,v,h=>by simp only[SV.sub];exact h
 | .nili,v,h=>by simp only[SV.sub];exact h
 | .nilm,v,h=>by simp only[SV.sub];exact h
 | .err _,v,h=>by simp only[SV.sub];exact h
 | .emp _,v,h=>by simp only[SV.sub];exact h
 | .mp _,v,h=>by simp only[SV.sub];exact h
 | .cptr _ _ _ _,v,h=>by simp only[SV.sub];exact h
 | .nptr _ _ _ _,v,h=>by simp only[SV.sub];exact h
theorem jiy {b:Nat} {s:SV} (hs:∀v,bO ν F (.own b) v->bO ν F s v):∀(l:List SV) (m:List AV),dO ν F l m->dO ν F (SV.subL b s l) m
 | [],m,h=>h
 | x::l,m,⟨v,m',e1,h1,h2⟩=>⟨v,m',e1,jx4 hs x v h1,jiy hs l m' h2⟩
end
theorem jiu {b:Nat} {s:SV} (hs:∀v,bO ν F (.own b) v->bO ν F s v):∀ {m:dT} {M:List Ent},oE ν F m M->oE ν F (m.map λx=>(x.1,SB.sub b s x.2)) M
 | [],M,h=>h
 | (n,.lit l)::m,M,⟨E,M',e1,⟨w,c,e2,h1⟩,h2⟩=>⟨E,M',e1,⟨w,c,e2,jiy hs l c h1⟩,jiu hs h2⟩
 | (n,.arr _ _ _)::m,M,⟨E,M',e1,h1,h2⟩=>⟨E,M',e1,h1,jiu hs h2⟩
 | (n,.fix _ _ _)::m,M,⟨E,M',e1,h1,h2⟩=>⟨E,M',e1,h1,jiu hs h2⟩
 | (n,.mp _ _ _)::m,M,⟨E,M',e1,h1,h2⟩=>⟨E,M',e1,h1,jiu hs h2⟩
theorem j17 {f:SV->SV} {ct:oI} {n:Nat} {v:SV}:∀ {fr:oI},gN ((fr.map λx=>(x.1,f x.2))++ct) n=some v->gN (fr++ct) n=some v\/∃u,gN (fr++ct) n=some u/\v=f u
 | [],h=>.inl h
 | (k,u)::r,h=>by
   simp only[dA,fN,gN] at h ⊢;cases hb:Nat.beq k n<;>rw[hb] at h<;>simp only[aH,aJ] at h ⊢
   ·exact j17 h
   ·cases h;exact .inr ⟨u,rfl,rfl⟩
def jdu:List Nat->St->List SV->St×List SV
 | [],S,ss=>(S,ss)
 | b::bs,S,ss=>match gC S.mv b with
   | some (.arr t L _)=>jdu bs { S with fr:=S.fr.map (λx=>(x.1,SV.sub b (.fz t L) x.2)),mv:=(lL S.mv b).map (λx=>(x.1,SB.sub b (.fz t L) x.2)) } (SV.subL b (.fz t L) ss)
   | _=>jdu bs S ss
theorem jvh:∀(bs:List Nat) {S:St} {F:cE} {M R:List Ent} {ss:List SV},ConX B ro e c S tm H nx ν F M R->
  ∃F' M' R',ConX B ro e c (jdu bs S ss).1 tm H nx ν F' M' R'/\(∀x∈F,x∈F')/\∀vs,dO ν F ss vs->dO ν F' (jdu bs S ss).2 vs
 | [],S,F,M,R,ss,h=>⟨F,M,R,h,λ_ h=>h,λ_ h=>h⟩
 | b::bs,S,F,M,R,ss,h=>by
   unfold jdu;split
   ·rename_i t L cap hb;obtain⟨E,hE,hp,_,⟨M1,hM⟩,_⟩:=h.own hb;obtain⟨k1,k2⟩:=jrn (F':=vO E++F) hE (λx hx=>bU.2 (.inr hx)) (λx hx=>bU.2 (.inl hx));have hs:∀v,bO ν (vO E++F) (.own b) v->bO ν (vO E++F) (.fz t L) v:=λv hv=>by
     obtain⟨rfl,_⟩:=hv;exact⟨hE.1,k1⟩
    have h1:ConX B ro e c { S with fr:=S.fr.map (λx=>(x.1,SV.sub b (.fz t L) x.2)),mv:=(lL S.mv b).map (λx=>(x.1,SB.sub b (.fz t L) x.2)) } tm H nx ν (vO E++F) M1 (E++R):=by
     refine⟨hM.hk,λn v hv=>?_,hM.ov,jiu hs hM.mv,hM.wr,hM.mc,hM.fz,hM.gl⟩;rcases j17 hv with h2 | ⟨u,h2,rfl⟩
     ·exact hM.fr n v h2
     ·exact jx4 hs _ _ (hM.fr n u h2)
    obtain⟨F',M',R',q1,q2,q3⟩:=jvh bs (ss:=SV.subL b (.fz t L) ss) h1;exact⟨F',M',R',q1,λx hx=>q2 x (bU.2 (.inr hx)),λvs hv=>q3 vs (jiy hs _ _ (sD (λx hx=>bU.2 (.inr hx)) _ _ hv))⟩
   ·exact jvh bs h
end X
end Go.Vm
