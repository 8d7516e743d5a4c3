/-
  Maps whose keys and values are plain data, on symbolic values.
-/
import Derived.Test.YtahplmacekfjgaaGreatDoorXG3
set_option linter.unusedSimpArgs false
set_option linter.unusedVariables false
set_option linter.unusedSectionVars false
set_option linter.unnecessarySimpa false
namespace Go.Vm
namespace X
open W
variable {B:Base} {ro:Nat} {e:Env} {c:Cnv} {S:St} {tm:Tr AV} {H:Tr Blk} {nx:Nat} {ν:Nm} {F:jai} {M R:List Ent}
def ptB:SV→Option (Nat×Nat)
 | .ptr b o=>some (b,o)
 | .nptr b _ _ f=>some (b,f)
 | .cptr b _ _ _=>some (b,0)
 | _=>none
theorem jr7 {s:SV} {b o:Nat} (h:ptB s=some (b,o)) {v:AV} (hv:SVR ν F s v):v=.ptr (ν b).1 o:=by
 cases s<;>simp only[ptB,reduceCtorEq,Option.some.injEq,Prod.mk.injEq] at h
 ·obtain⟨rfl,rfl⟩:=h;exact hv
 ·obtain⟨rfl,rfl⟩:=h;exact hv.1
 ·obtain⟨rfl,rfl⟩:=h;exact hv.1
def Ty.flatK:Ty→Bool
 | .prod a b=>a.flatK&&b.flatK
 | .arr _ t=>t.flatK
 | .sl _ | .slx _=>false
 | _=>true
def Ty.kc:Ty→List Nat
 | .int _=>[1]
 | .bool=>[0]
 | .str=>[2]
 | .unit=>[]
 | .prod a b=>a.kc++b.kc
 | .arr n t=>(List.replicate n t.kc).flatten
 | .sl _ | .slx _=>[9]
def leq {α:Type} (f:α→α→Bool):List α→List α→Bool
 | [],[]=>true
 | a::l,b::m=>bif f a b then leq f l m else false
 | _,_=>false
def Ty.eqb:(t:Ty)→t.den→t.den→Bool
 | .int _,x,y=>decide ((x:Int)=y)
 | .bool,x,y=>(x:Bool)==y
 | .str,x,y=>jwx x y
 | .unit,_,_=>true
 | .prod a b,x,y=>bif a.eqb x.1 y.1 then b.eqb x.2 y.2 else false
 | .arr _ t,x,y=>leq t.eqb x y
 | .sl _,_,_ | .slx _,_,_=>false
def j0d (k v:Ty) (x:k.den):List (k.den×v.den)→Option v.den
 | []=>none
 | a::L=>bif k.eqb x a.1 then some a.2 else j0d k v x L
def j3w (k v:Ty) (x:k.den) (y:v.den):List (k.den×v.den)→List (k.den×v.den)
 | []=>[(x,y)]
 | a::L=>bif k.eqb x a.1 then(x,y)::L else a::j3w k v x y L
theorem j18:∀(t:Ty),t.flatK=true→t.kc.length=t.size
 | .int _,_=>rfl
 | .bool,_=>rfl
 | .str,_=>rfl
 | .unit,_=>rfl
 | .prod a b,h=>by
   simp only[Ty.flatK,Bool.and_eq_true] at h
   simp only[Ty.kc,Ty.size,List.length_append,j18 a h.1,j18 b h.2]
 | .arr n t,h=>by
   simp only[Ty.flatK] at h
   have:=j18 t h
   simp[Ty.kc,Ty.size,this]
theorem jwg:∀(t:Ty),t.flatK=true→∀(x y:t.den) (l m:List AV),jbo F t x l→jbo F t y m→∀ks l' m',jmr (t.kc++ks) (l++l') (m++m')=bif t.eqb x y then jmr ks l' m' else some false
 | .int k,_,x,y,l,m,h1,h2,ks,l',m'=>by
   simp only[jbo] at h1 h2
   subst h1;subst h2
   have e1:keq k k=true:=jf0.2 rfl
   have e2:ceq 1 (.int k x) (.int k y)=some (decide ((x:Int)=y)):=by
    simp only[ceq,e1,if_true,jqs]
    rfl
   show jmr (1::ks) (.int k x::l') (.int k y::m')=_
   simp only[jmr,e2,Ty.eqb]
   cases decide ((x:Int)=y)<;>rfl
 | .bool,_,x,y,l,m,h1,h2,ks,l',m'=>by
   simp only[jbo] at h1 h2
   subst h1;subst h2
   simp only[Ty.kc,List.cons_append,List.nil_append,jmr,ceq,Ty.eqb]
   cases x<;>cases y<;>rfl
 | .str,_,x,y,l,m,h1,h2,ks,l',m'=>by
   simp only[jbo] at h1 h2
   subst h1;subst h2
   simp only[Ty.kc,List.cons_append,List.nil_append,jmr,ceq,Ty.eqb]
   cases jwx x y<;>rfl
 | .unit,_,x,y,l,m,h1,h2,ks,l',m'=>by
   simp only[jbo] at h1 h2
   subst h1;subst h2
   rfl
 | .prod a b,hf,x,y,l,m,⟨l1,l2,e1,p1,p2⟩,⟨m1,m2,e2,q1,q2⟩,ks,l',m'=>by
   simp only[Ty.flatK,Bool.and_eq_true] at hf
   subst e1;subst e2
   simp only[Ty.kc,List.append_assoc]
   rw[jwg a hf.1 _ _ _ _ p1 q1,jwg b hf.2 _ _ _ _ p2 q2]
   simp only[Ty.eqb]
   cases a.eqb x.1 y.1<;>rfl
 | .arr n t,hf,x,y,l,m,⟨n1,p⟩,⟨n2,q⟩,ks,l',m'=>by
   simp only[Ty.flatK] at hf
   have key:∀(x y:List t.den) (l m:List AV),x.length=y.length→jcv (jbo F t) x l→jcv (jbo F t) y m→jmr ((List.replicate x.length t.kc).flatten++ks) (l++l') (m++m')=bif leq t.eqb x y then jmr ks l' m' else some false:=by
    intro x
    induction x with
    | nil=>
      intro y l m hl p q
      cases y with
      | cons _ _=>simp at hl
      | nil=>
        simp only[jcv] at p q
        subst p;subst q
        rfl
    | cons a x ih=>
      intro y l m hl p q
      cases y with
      | nil=>simp at hl
      | cons b y=>
        obtain⟨l1,l2,e1,p1,p2⟩:=p
        obtain⟨m1,m2,e2,q1,q2⟩:=q
        subst e1;subst e2
        simp only[List.length_cons,List.replicate_succ,List.flatten_cons,List.append_assoc]
        rw[jwg t hf _ _ _ _ p1 q1,ih y l2 m2 (by simpa using hl) p2 q2]
        simp only[leq]
        cases t.eqb a b<;>rfl
   have:=key x y l m (n1.trans n2.symm) p q
   rw[n1] at this
   exact this
theorem j01 {t:Ty} (hf:t.flatK=true) {x y:t.den} {a b:AV} (ha:Rel F t x a) (hb:Rel F t y b):ju0 t.agg t.kc a b=some (t.eqb x y):=by
 have fin:∀ {l m:List AV},jbo F t x l→jbo F t y m→jmr t.kc l m=some (t.eqb x y):=fun h1 h2=>by
  have:=jwg t hf _ _ _ _ h1 h2 [] [] []
  simp only[List.append_nil] at this
  rw[this]
  cases t.eqb x y<;>rfl
 unfold Rel at ha hb
 unfold ju0
 cases hg:t.agg with
 | true=>
   rw[hg] at ha hb
   obtain⟨l,rfl,ha⟩:=ha
   obtain⟨m,rfl,hb⟩:=hb
   simp only[cond_true,jaj _ _ _ ha,jaj _ _ _ hb,j18 t hf,Nat.beq_refl,Bool.and_self]
   exact fin ha hb
 | false=>
   rw[hg] at ha hb
   exact fin ha hb
theorem j0k {k v:Ty} (hf:k.flatK=true) {x:k.den} {a:AV} (ha:Rel F k x a):∀ {L:List (k.den×v.den)} {m:List (AV×AV)} (i:Nat),MpR F k v L m→
  ∃r:Option (Nat×AV),jvs k.agg k.kc a m i=some (r.map fun z=>(i+z.1,z.2))∧((r=none∧j0d k v x L=none)∨∃j b y,r=some (j,b)∧j0d k v x L=some y∧Rel F v y b)∧
   ∀y b,Rel F v y b→MpR F k v (j3w k v x y L) (j3x a b m r)
 | [],m,i,h=>by
   simp only[MpR] at h
   subst h
   exact⟨none,rfl,.inl ⟨rfl,rfl⟩,fun y b hb=>⟨a,b,[],rfl,ha,hb,rfl⟩⟩
 | p::L,m,i,⟨a',b',m',e,h1,h2,h3⟩=>by
   subst e
   have hq:=j01 hf ha h1
   cases hx:k.eqb x p.1 with
   | true=>
     rw[hx] at hq
     refine⟨some (0,b'),by simp only[jvs,hq];rfl,.inr ⟨0,b',p.2,rfl,by simp only[j0d,hx,cond_true],h2⟩,fun y b hb=>?_⟩
     simp only[j3w,hx,cond_true]
     exact⟨a,b,m',rfl,ha,hb,h3⟩
   | false=>
     rw[hx] at hq
     obtain⟨r,k1,k2,k3⟩:=j0k hf ha (i+1) h3
     refine⟨r.map fun z=>(z.1+1,z.2),?_,?_,fun y b hb=>?_⟩
     ·simp only[jvs,hq,k1]
      cases r with
      | none=>rfl
      | some z=>simp only[Option.map_some,Option.some.injEq,Prod.mk.injEq,and_true];omega
     ·rcases k2 with⟨rfl,k2⟩ | ⟨j,b,y,rfl,k2,k4⟩
      ·exact .inl ⟨rfl,by simp only[j0d,hx,cond_false,k2]⟩
      ·exact .inr ⟨j+1,b,y,rfl,by simp only[j0d,hx,cond_false,k2],k4⟩
     ·simp only[j3w,hx,cond_false]
      have:=k3 y b hb
      cases r with
      | none=>exact⟨a',b',_,rfl,h1,h2,this⟩
      | some z=>exact⟨a',b',_,rfl,h1,h2,this⟩
def khl:List Nat→List Nat→Bool
 | [],[]=>true
 | a::l,b::m=>a.beq b&&khl l m
 | _,_=>false
theorem j0n:∀ {l m:List Nat},khl l m=true→l=m
 | [],[],_=>rfl
 | a::l,b::m,h=>by
   simp only[khl,Bool.and_eq_true,jaa,decide_eq_true_eq] at h
   rw[h.1,j0n h.2]
 | [],_::_,h=>by cases h
 | _::_,[],h=>by cases h
def kfi (g:Opd→Option SV):Option Opd→Bool
 | none=>true
 | some o=>match g o with
   | some (.int _ _)=>true
   | _=>false
def kfj (ok:Bool) (v:Ty) (z:v.den) (y:Option v.den):SV:=bif ok then .tup [j9g v (y.getD z),.bool y.isSome] else j9g v (y.getD z)
def cpA (b:Nat) (t:Ty) (L:List t.den) (cap:Option Nat) (o n:Nat) (N:List t.den) (S:St):NS:=
 some (some ((1:Nat).ble (List.length (α:=t.den) N)&&(1:Nat).ble n),.int .i64 (Int.ofNat (min (List.length (α:=t.den) N) n)),{ S with mv:=j1p S.mv b (.arr t (List.take o L++(List.take (min (List.length (α:=t.den) N) n) N++List.drop (o+min (List.length (α:=t.den) N) n) L)) cap) })
def kd0 (g:Opd→Option SV) (e:Env) (S:St) (q:Bool) (hn:Option Ty):I→NS
 | .mkmap r=>match hn with
   | some (.prod k v)=>bif k.flatK&&fresh e S&&kfi g r then some (none,.mp S.nc,jvo S (.mp k v [])) else none
   | _=>none
 | .mlook agg ks z ok x k=>match g x,g k,kff z with
   | some (.mp b),some sk,some sz=>match look e S b with
     | some (.mp kt vt L)=>bif kt.flatK&&vt.ok&&khl ks kt.kc&&(agg==kt.agg) then(match jz3 j4s kt sk,jz3 j4s vt sz with
       | some x,some z=>some (none,kfj ok vt z (j0d kt vt x L),S)
       | _,_=>none) else none
     | _=>none
   | _,_,_=>none
 | .mset agg ks x k v=>bif q then none else match g x,g k,g v with
   | some (.mp b),some sk,some sv=>match lkM S.mv b with
     | some (.mp kt vt L)=>bif kt.flatK&&khl ks kt.kc&&(agg==kt.agg) then(match jz3 j4s kt sk,jz3 j4s vt sv with
       | some x,some y=>some (none,.tup [],{ S with mv:=j1p S.mv b (.mp kt vt (j3w kt vt x y L)) })
       | _,_=>none) else none
     | _=>none
   | _,_,_=>none
 | .copy z x y=>bif q then none else match g x,g y with
   | some (.aview b n o m z'),some sy=>match lkM S.mv b with
     | some (.fix t n' L)=>bif z.beq t.size&&z'.beq t.size&&n.beq n'&& !(z.beq 0) then(match js6 (look e S) t sy with
       | some N=>some (some ((1:Nat).ble (List.length (α:=t.den) N)&&(List.length (α:=t.den) N).ble m),.int .i64 (Int.ofNat (List.length (α:=t.den) N)),{ S with mv:=j1p S.mv b (.fix t n' (List.take o L++(N++List.drop (o+List.length (α:=t.den) N) L))) })
       | none=>none) else none
     | _=>none
   | some (.own b),some sy=>match lkM S.mv b with
     | some (.arr t L cap)=>bif z.beq t.size then(match js6 (look e S) t sy with
       | some N=>cpA b t L cap 0 (List.length (α:=t.den) L) N S
       | none=>none) else none
     | _=>none
   | some (.view b o n _ z'),some sy=>match lkM S.mv b with
     | some (.arr t L cap)=>bif z.beq t.size&&z'.beq t.size then(match js6 (look e S) t sy with
       | some N=>cpA b t L cap o n N S
       | none=>none) else none
     | _=>none
   | _,_=>none
 | _=>none
theorem kbp {α:Type} {z:Nat} {P:α→List AV→Prop} (hP:∀x l,P x l→l.length=z) {F':jai} (hAt:∀x∈F',x.1<nx∧x.2.At H x.1) {L:List α} {v:AV} (h:SlR F' z (jcv P) L v) {k:Nat} (hk:k≤L.length):
  ∃new,src z H k v=some new∧jcv P (L.take k) new:=by
 rcases h with⟨rfl,rfl⟩ | ⟨b,o,cap,l,rfl,h1,h2,h3,h4⟩
 ·obtain rfl:k=0:=by simpa using hk
  exact⟨[],rfl,rfl⟩
 ·obtain⟨tc,k1,k2⟩:=(hAt _ h1).2
  have hkz:k*z≤L.length*z:=Nat.mul_le_mul_right _ hk
  have h3':o+k*z≤l.length:=by omega
  refine⟨(l.drop o).take (k*z),?_,?_⟩
  ·simp only[src,Nat.beq_refl,jab,hk,decide_true,Bool.and_true,cond_true,k1,h3',jhs (H:=H) (b:=0) k2 _ _ h3']
  ·have:=jfk hP k h4
   rwa[List.take_take,Nat.min_eq_left hkz] at this
theorem j7j (h:ConX B ro e c S tm H nx ν F M R) {t:Ty} {s:SV} {x:List t.den} (hd:js6 (look e S) t s=some x) {v:AV} (hv:SVR ν F s v) {k:Nat} (hk:k≤x.length):
  ∃new,src t.size H k v=some new∧jcv (jbo F t) (x.take k) new:=by
 unfold js6 at hd
 split at hd
 ·rename_i s
  split at hd<;>try (cases hd;done)
  cases hd
  simp only[SVR] at hv
  subst hv
  have h2:k≤s.length:=by simpa using hk
  refine⟨(s.take k).map fun c=>AV.int .u8 (.ofNat c),?_,?_⟩
  ·simp only[src,Ty.size,Nat.beq_refl,jab,h2,decide_true,Bool.and_true,cond_true]
  ·rw[←List.map_take];exact jzq F _
 ·exact kbp (P:=jbo F t) (jaj t) h.allAt (jue (fun x hx=>List.mem_append.2 (.inl hx)) h.ownR hd hv) hk
theorem j10 {ok:Bool} {v:Ty} (hv:v.ok=true) {z:v.den} {y:Option v.den} {a:AV} (h:Rel F v (y.getD z) a):SVR ν F (kfj ok v z y) (kak ok a y.isSome):=by
 have:=jsy (ν:=ν) hv h
 cases ok with
 | true=>exact⟨_,rfl,a,_,rfl,this,.bool _,[],rfl,rfl,rfl⟩
 | false=>exact this
theorem jvv {call:FuncId→List AV→Tr Blk→Nat→Nat→Out} {g:Opd→Option SV} (hg:∀x s,g x=some s→SVR ν F s (ja7 tm x)) {q:Bool} (h:ConX B ro e c S tm H nx ν F M R) {hn:Option Ty} {i:I} {cc:Option Bool} {s:SV} {S':St} (hs:kd0 g e S q hn i=some (cc,s,S')) (hc:okc cc=true):
  ∃v H' nx' ν' F' M' R',hop call (bif q then nx else ro) (ja7 tm) H nx i=some (v,H',nx')∧ConX B ro e c S' tm H' nx' ν' F' M' R'∧SVR ν' F' s v∧S'.fr=S.fr:=by
 cases i<;>simp only[kd0] at hs<;>try (cases hs;done)
 case mkmap r=>
  split at hs<;>try (cases hs;done)
  rename_i k v
  obtain⟨hb,hs⟩:=jaf hs
  simp only[Bool.and_eq_true] at hb
  obtain⟨⟨hk,hf⟩,hr⟩:=hb
  cases hs
  have h':=h.name hf (nx,.nils)
  refine⟨.mp nx,H.set nx (.mp []),nx+1,ν.upd S.nc (nx,.nils),F,⟨nx,true,.mp []⟩::M,R,?_,⟨?_,h'.fr,h'.ov,⟨_,M,rfl,⟨true,[],by rw[jbn],rfl⟩,h'.mv⟩,fun x hx=>by rcases List.mem_cons.1 hx with rfl | hx;rfl;exact h.wr x hx,h'.mc,h.fz,h'.gl⟩,?_,rfl⟩
  ·cases r with
   | none=>simp only[hop,Option.map_none,jln]
   | some o=>
     simp only[kfi] at hr
     split at hr<;>try (cases hr;done)
     rename_i ho
     have:=hg _ _ ho
     simp only[SVR] at this
     simp only[hop,Option.map_some,this,jln]
  ·exact h.hk.new (.mp []) (.mp []) (by simp only[HB.At];rw[Tr.get_set,if_pos rfl])
  ·simp only[SVR,jbn]
 case mlook agg ks z ok x k=>
  split at hs<;>try (cases hs;done)
  rename_i b sk sz hx hk hz
  split at hs<;>try (cases hs;done)
  rename_i kt vt L hb
  clear hc
  obtain⟨hc,hs2⟩:=jaf hs
  clear hs
  simp only[Bool.and_eq_true,beq_iff_eq] at hc
  obtain⟨⟨⟨hf,hvo⟩,hks⟩,rfl⟩:=hc
  have hks:=j0n hks
  subst hks
  split at hs2<;>try (cases hs2;done)
  rename_i xk zv hpk hpz
  cases hs2
  have rk:=jof (F:=F) jdg hpk (hg _ _ hk)
  have rz:=jof (F:=F) jdg hpz (j0a h.gl.1 hz)
  have hxv:=hg _ _ hx
  simp only[SVR] at hxv
  obtain⟨F',E,⟨w,m,rfl,hm⟩,hF,hE⟩:=h.look hb
  have hm:MpR F kt vt L m:=jrp (fun x hx=>by rcases hF with rfl | rfl;exact hx;cases hx) hm
  have hat:HB.At H (ν b).1 (.mp m):=(hE _ (List.mem_singleton.2 rfl)).2
  simp only[HB.At] at hat
  obtain⟨r,k1,k2,_⟩:=j0k hf rk 0 hm
  have hself:(ju0 kt.agg kt.kc (ja7 tm k) (ja7 tm k)).isSome=true:=by rw[j01 hf rk rk];rfl
  rcases k2 with⟨rfl,k2⟩ | ⟨j,bv,y,rfl,k2,k4⟩
  ·refine⟨kak ok z false,H,nx,ν,F,M,R,?_,h,?_,rfl⟩
   ·simp only[hop,hself,cond_true,hxv,hat,k1,Option.map_none]
   ·rw[k2]
    exact j10 (y:=none) hvo rz
  ·refine⟨kak ok bv true,H,nx,ν,F,M,R,?_,h,?_,rfl⟩
   ·simp only[hop,hself,cond_true,hxv,hat,k1,Option.map_some]
   ·rw[k2]
    exact j10 (y:=some y) hvo k4
 case mset agg ks x k v=>
  cases q with
  | true=>cases hs
  | false=>
  simp only[cond_false] at hs ⊢
  split at hs<;>try (cases hs;done)
  rename_i b sk sv hx hk hv
  split at hs<;>try (cases hs;done)
  rename_i kt vt L hb
  clear hc
  obtain⟨hc,hs2⟩:=jaf hs
  clear hs
  simp only[Bool.and_eq_true,beq_iff_eq] at hc
  obtain⟨⟨hf,hks⟩,rfl⟩:=hc
  have hks:=j0n hks
  subst hks
  split at hs2<;>try (cases hs2;done)
  rename_i xk yv hpk hpv
  cases hs2
  have rk:=jof (F:=F) jdg hpk (hg _ _ hk)
  have rv:=jof (F:=F) jdg hpv (hg _ _ hv)
  have hxv:=hg _ _ hx
  simp only[SVR] at hxv
  obtain⟨E,⟨w,m,rfl,hm⟩,hp,hupd,_⟩:=h.own hb
  obtain⟨hw,hro,_,hat⟩:=hp _ (List.mem_singleton.2 rfl)
  simp only at hw hro hat
  subst hw
  simp only[HB.At] at hat
  obtain⟨r,k1,_,k3⟩:=j0k hf rk 0 hm
  have hself:(ju0 kt.agg kt.kc (ja7 tm k) (ja7 tm k)).isSome=true:=by rw[j01 hf rk rk];rfl
  have e0:(r.map fun z=>(0+z.1,z.2))=r:=by cases r<;>simp
  rw[e0] at k1
  obtain⟨M',hC⟩:=hupd (ν b).1 (.mp m) (.mp (j3x (ja7 tm k) (ja7 tm v) m r)) (.mp (j3x (ja7 tm k) (ja7 tm v) m r)) (.mp kt vt (j3w kt vt xk yv L)) rfl (by simp only[HB.At];rw[Tr.get_set,if_pos rfl]) ⟨true,_,rfl,k3 _ _ rv⟩
  refine⟨.tup [],H.set (ν b).1 (.mp (j3x (ja7 tm k) (ja7 tm v) m r)),nx,ν,F,M',R,?_,hC,⟨[],rfl,rfl⟩,rfl⟩
  simp only[hop,hxv,hat,k1,hself,Bool.and_true,jab,hro,decide_true,cond_true,jcz]
 case copy z x y=>
  cases q with
  | true=>cases hs
  | false=>
  simp only[cond_false] at hs ⊢
  have arr:∀ {b:Nat} {t:Ty} {L N:List t.den} {cap:Option Nat} {o n:Nat} {sy:SV} {cp:Option Nat},lkM S.mv b=some (.arr t L cap)→z=t.size→js6 (look e S) t sy=some N→g y=some sy→
    ja7 tm x=.sl (ν b).1 (o*z) n cp z→o+n≤L.length→cpA b t L cap o n N S=some (cc,s,S')→
    ∃v H' nx' ν' F' M' R',hop call ro (ja7 tm) H nx (.copy z x y)=some (v,H',nx')∧ConX B ro e c S' tm H' nx' ν' F' M' R'∧SVR ν' F' s v∧S'.fr=S.fr:=by
   intro b t L N cap o n sy cp hb hz hN hy hxv hon hcp
   subst hz
   cases hcp
   simp only[okc,Bool.and_eq_true,jab,decide_eq_true_eq] at hc
   obtain⟨hN1,hn1⟩:=hc
   generalize hk:min N.length n=k
   have hk1:k≤N.length:=by omega
   have hk2:k≤n:=by omega
   have hk0:1≤k:=by omega
   obtain⟨y1,_⟩:=jo6 h hN (hg _ _ hy)
   obtain⟨new,y2,y3⟩:=j7j h hN (hg _ _ hy) hk1
   have hone:=jd0 (jer t) y3
   have hnew:=jbw (jaj t) y3
   rw[List.length_take,Nat.min_eq_left hk1] at hnew
   obtain⟨E,⟨h0,hE⟩,hp,hupd,_⟩:=h.own hb
   rcases hE with⟨hd,rfl⟩ | ⟨w,mm,rfl,hd,hm,ha⟩
   ·rcases hd with⟨_,_,e1,_⟩ | ⟨_,_,_,e1,_⟩
    ·omega
    ·cases e1
   obtain⟨hw,hro,_,tc,p4,p5⟩:=hp _ (List.mem_singleton.2 rfl)
   simp only at hw hro p4 p5
   subst hw
   rcases hd with⟨_,e1,_⟩ | ⟨c',n',e1,e2,hle,g3,g4⟩
   ·cases e1
   cases e2
   have hkz:(o+k)*t.size≤L.length*t.size:=Nat.mul_le_mul_right _ (by omega)
   rw[Nat.add_mul] at hkz
   have hat:=j3b (H:=H) (b:=(ν b).1) (new:=new) (o:=o*t.size) p5 (by omega)
   have jbh:(List.take o L++(List.take k N++List.drop (o+k) L)).length=L.length:=by simp;omega
   have hsl:(jbc mm (o*t.size) new).length=mm.length:=jd6 (by omega)
   obtain⟨M',hC⟩:=hupd (ν b).1 (.cells mm) _ _ (.arr t (List.take o L++(List.take k N++List.drop (o+k) L)) cap) rfl hat ⟨h0,.inr ⟨true,_,rfl,by
    rw[jbh,hsl]
    exact .inr ⟨c',mm.length,e1,rfl,hle,g3,g4⟩,by
    rw[jbh,jrx (by omega) (by omega)]
    have e3:jbc (mm.take (L.length*t.size)) (o*t.size) new=(mm.take (L.length*t.size)).take (o*t.size)++(new++(mm.take (L.length*t.size)).drop ((o+k)*t.size)):=by
     unfold jbc
     rw[hnew,Nat.add_mul]
    rw[e3]
    exact jcr (jfk (jaj t) o hm) (jcr y3 (jl1 (jaj t) (o+k) hm)),jqe ha hone⟩⟩
   refine⟨.int .i64 k,_,nx,ν,F,M',R,?_,hC,rfl,rfl⟩
   have e0:k.beq 0=false:=by rw[jaa];simp;omega
   have ek:(bif N.length.ble n then N.length else n)=k:=by
    rw[jab]
    by_cases hh:N.length≤n
    ·simp only[hh,decide_true,cond_true];omega
    ·simp only[hh,decide_false,cond_false];omega
   have hle2:o*t.size+k*t.size≤mm.length:=by omega
   simp only[hop,y1,hxv]
   rw[ek]
   simp only[y2,e0,cond_false,p4,hro,Nat.beq_refl,jab,hle2,decide_true,hone,Bool.and_self,cond_true,jcp,jcz]
  split at hs<;>try (cases hs;done)
  rotate_left
  ·rename_i b sy hx hy
   split at hs<;>try (cases hs;done)
   rename_i t L cap hb
   obtain⟨hz,hs2⟩:=jaf hs
   clear hs
   rw[jaa,decide_eq_true_eq] at hz
   split at hs2<;>try (cases hs2;done)
   rename_i N hN
   obtain⟨hxv,hsl⟩:=hg _ _ hx
   obtain⟨h0,sz,hd⟩:=h.heads _ _ _ _ (show look e S b=some (.arr t L cap) by unfold look;rw[jl7,hb])
   have hn1:1≤List.length (α:=t.den) L:=by
    cases hs2
    simp only[okc,Bool.and_eq_true,jab,decide_eq_true_eq] at hc
    exact hc.2
   rcases hd with⟨_,_,e1,_⟩ | ⟨c',n',e1,_⟩
   ·omega
   ·subst hz
    exact arr hb rfl hN hy (o:=0) (by rw[hxv,e1,Nat.zero_mul]) (by omega) hs2
  ·rename_i b o n cp z' sy hx hy
   split at hs<;>try (cases hs;done)
   rename_i t L cap hb
   obtain⟨hz,hs2⟩:=jaf hs
   clear hs
   simp only[Bool.and_eq_true,jaa,decide_eq_true_eq] at hz
   obtain⟨hz,hz'⟩:=hz
   split at hs2<;>try (cases hs2;done)
   rename_i N hN
   have hn1:1≤n:=by
    cases hs2
    simp only[okc,Bool.and_eq_true,jab,decide_eq_true_eq] at hc
    exact hc.2
   obtain⟨h0,sz,hd⟩:=h.heads _ _ _ _ (show look e S b=some (.arr t L cap) by unfold look;rw[jl7,hb])
   rcases hg _ _ hx with⟨_,e1,_⟩ | ⟨c',e1,_,_,len,cp',e2,h5,_⟩
   ·omega
   ·rcases hd with⟨e3,_⟩ | ⟨c2,n',e3,_⟩
    ·rw[e2] at e3;cases e3
    ·rw[e2] at e3
     cases e3
     subst hz
     exact arr hb rfl hN hy e1 h5 hs2
  rename_i b n o m z' sy hx hy
  split at hs<;>try (cases hs;done)
  rename_i t n' L hb
  obtain⟨hq,hs2⟩:=jaf hs
  clear hs
  simp only[Bool.and_eq_true,Bool.not_eq_true',jaa,decide_eq_true_eq,decide_eq_false_iff_not] at hq
  obtain⟨⟨⟨rfl,rfl⟩,rfl⟩,hz0⟩:=hq
  split at hs2<;>try (cases hs2;done)
  rename_i N hN
  cases hs2
  simp only[okc,Bool.and_eq_true,jab,decide_eq_true_eq] at hc
  obtain⟨hN1,hNm⟩:=hc
  obtain⟨⟨cp,hxv⟩,hom⟩:=hg _ _ hx
  obtain⟨y1,new,y2,y3⟩:=jo6 h hN (hg _ _ hy)
  have hone:=jd0 (jer t) y3
  have hnew:=jbw (jaj t) y3
  obtain⟨E,⟨w,mm,rfl,hL,hm⟩,hp,hupd,_⟩:=h.own hb
  obtain⟨hw,hro,_,tc,p4,p5⟩:=hp _ (List.mem_singleton.2 rfl)
  simp only at hw hro p4 p5
  subst hw
  have hmm:=jbw (jaj t) hm
  have hle:o*t.size+N.length*t.size≤mm.length:=by
   rw[hmm,hL,←Nat.add_mul]
   exact Nat.mul_le_mul_right _ (by omega)
  have hat:=j3b (H:=H) (b:=(ν b).1) (new:=new) (o:=o*t.size) p5 (by omega)
  obtain⟨M',hC⟩:=hupd (ν b).1 (.cells mm) _ _ (.fix t n (List.take o L++(N++List.drop (o+N.length) L))) rfl hat ⟨true,_,rfl,by simp;omega,by
   have e1:jbc mm (o*t.size) new=mm.take (o*t.size)++(new++mm.drop ((o+N.length)*t.size)):=by
    unfold jbc
    rw[hnew,Nat.add_mul]
   rw[e1]
   exact jcr (jfk (jaj t) o hm) (jcr y3 (jl1 (jaj t) (o+N.length) hm))⟩
  refine⟨.int .i64 N.length,_,nx,ν,F,M',R,?_,hC,rfl,rfl⟩
  have e0:N.length.beq 0=false:=by rw[jaa];simp;intro h;rw[h] at hN1;simp at hN1
  simp only[hop,y1,hxv,jab,hNm,decide_true,cond_true,y2,e0,cond_false,p4,hro,Nat.beq_refl,hle,hone,Bool.and_self,jcp,jcz]
mutual
def SV.sub (b:Nat) (s:SV):SV→SV
 | .own n=>bif n.beq b then s else .own n
 | .agg l=>.agg (SV.subL b s l)
 | .tup l=>.tup (SV.subL b s l)
 | x=>x
def SV.subL (b:Nat) (s:SV):List SV→List SV
 | []=>[]
 | x::l=>SV.sub b s x::SV.subL b s l
end
mutual
def kj2:SV→List Nat
 | .own n=>[n]
 | .agg l=>j6c l
 | _=>[]
def j6c:List SV→List Nat
 | []=>[]
 | x::l=>kj2 x++j6c l
end
def SB.sub (b:Nat) (s:SV):SB→SB
 | .lit l=>.lit (SV.subL b s l)
 | x=>x
mutual
theorem j74 {b:Nat} {s:SV} (hs:∀v,SVR ν F (.own b) v→SVR ν F s v):∀(x:SV) (v:AV),SVR ν F x v→SVR ν F (SV.sub b s x) v
 | .own n,v,h=>by
   simp only[SV.sub]
   cases hb:n.beq b with
   | false=>exact h
   | true=>
     rw[jaa,decide_eq_true_eq] at hb
     subst hb
     exact hs v h
 | .agg l,v,⟨m,e1,h⟩=>⟨m,e1,jpd hs l m h⟩
 | .tup l,v,⟨m,e1,h⟩=>⟨m,e1,jpd hs l m h⟩
 | .int _ _,v,h=>by simp only[SV.sub];exact h
 | .bool _,v,h=>by simp only[SV.sub];exact h
 | .str _,v,h=>by simp only[SV.sub];exact h
 | .fz _ _,v,h=>by simp only[SV.sub];exact h
 | .fzn _ _,v,h=>by simp only[SV.sub];exact h
 | .fzx _ _,v,h=>by simp only[SV.sub];exact h
 | .view _ _ _ _ _,v,h=>by simp only[SV.sub];exact h
 | .ag _ _ _,v,h=>by simp only[SV.sub];exact h
 | .ptr _ _,v,h=>by simp only[SV.sub];exact h
 | .eptr _ _ _ _,v,h=>by simp only[SV.sub];exact h
 | .aptr _ _ _ _ _ _,v,h=>by simp only[SV.sub];exact h
 | .aptr2 _ _ _ _ _ _ _ _ _ _,v,h=>by simp only[SV.sub];exact h
 | .aview _ _ _ _ _,v,h=>by simp only[SV.sub];exact h
 | .fptr _ _ _,v,h=>by simp only[SV.sub];exact h
 | .sptr _,v,h=>by simp only[SV.sub];exact h
 | .fn _ _ _,v,h=>by simp only[SV.sub];exact h
 | .tt,v,h=>by simp only[SV.sub];exact h
 | .ff,v,h=>by simp only[SV.sub];exact h
 | .nils,v,h=>by simp only[SV.sub];exact h
 | .nilp,v,h=>by simp only[SV.sub];exact h
 | .nilf,v,h=>by simp only[SV.sub];exact h
 | .nili,v,h=>by simp only[SV.sub];exact h
 | .nilm,v,h=>by simp only[SV.sub];exact h
 | .err _,v,h=>by simp only[SV.sub];exact h
 | .emp _,v,h=>by simp only[SV.sub];exact h
 | .mp _,v,h=>by simp only[SV.sub];exact h
 | .cptr _ _ _ _,v,h=>by simp only[SV.sub];exact h
 | .nptr _ _ _ _,v,h=>by simp only[SV.sub];exact h
theorem jpd {b:Nat} {s:SV} (hs:∀v,SVR ν F (.own b) v→SVR ν F s v):∀(l:List SV) (m:List AV),jbs ν F l m→jbs ν F (SV.subL b s l) m
 | [],m,h=>h
 | x::l,m,⟨v,m',e1,h1,h2⟩=>⟨v,m',e1,j74 hs x v h1,jpd hs l m' h2⟩
end
theorem jpg {b:Nat} {s:SV} (hs:∀v,SVR ν F (.own b) v→SVR ν F s v):∀ {m:Mem} {M:List Ent},jq0 ν F m M→jq0 ν F (m.map fun x=>(x.1,SB.sub b s x.2)) M
 | [],M,h=>h
 | (n,.lit l)::m,M,⟨E,M',e1,⟨w,c,e2,h1⟩,h2⟩=>⟨E,M',e1,⟨w,c,e2,jpd hs l c h1⟩,jpg hs h2⟩
 | (n,.arr _ _ _)::m,M,⟨E,M',e1,h1,h2⟩=>⟨E,M',e1,h1,jpg hs h2⟩
 | (n,.fix _ _ _)::m,M,⟨E,M',e1,h1,h2⟩=>⟨E,M',e1,h1,jpg hs h2⟩
 | (n,.mp _ _ _)::m,M,⟨E,M',e1,h1,h2⟩=>⟨E,M',e1,h1,jpg hs h2⟩
theorem j6s {f:SV→SV} {ct:SFr} {n:Nat} {v:SV}:∀ {fr:SFr},lkS ((fr.map fun x=>(x.1,f x.2))++ct) n=some v→lkS (fr++ct) n=some v∨∃u,lkS (fr++ct) n=some u∧v=f u
 | [],h=>.inl h
 | (k,u)::r,h=>by
   simp only[List.map_cons,List.cons_append,lkS] at h ⊢
   cases hb:Nat.beq k n<;>rw[hb] at h<;>simp only[cond_true,cond_false] at h ⊢
   ·exact j6s h
   ·cases h
    exact .inr ⟨u,rfl,rfl⟩
def kb5:List Nat→St→List SV→St×List SV
 | [],S,ss=>(S,ss)
 | b::bs,S,ss=>match lkM S.mv b with
   | some (.arr t L _)=>kb5 bs { S with fr:=S.fr.map (fun x=>(x.1,SV.sub b (.fz t L) x.2)),mv:=(jlx S.mv b).map (fun x=>(x.1,SB.sub b (.fz t L) x.2)) } (SV.subL b (.fz t L) ss)
   | _=>kb5 bs S ss
theorem jz1:∀(bs:List Nat) {S:St} {F:jai} {M R:List Ent} {ss:List SV},ConX B ro e c S tm H nx ν F M R→
  ∃F' M' R',ConX B ro e c (kb5 bs S ss).1 tm H nx ν F' M' R'∧(∀x∈F,x∈F')∧∀vs,jbs ν F ss vs→jbs ν F' (kb5 bs S ss).2 vs
 | [],S,F,M,R,ss,h=>⟨F,M,R,h,fun _ h=>h,fun _ h=>h⟩
 | b::bs,S,F,M,R,ss,h=>by
   unfold kb5
   split
   ·rename_i t L cap hb
    obtain⟨E,hE,hp,_,⟨M1,hM⟩,_⟩:=h.own hb
    obtain⟨k1,k2⟩:=j1a (F':=jdy E++F) hE (fun x hx=>List.mem_append.2 (.inr hx)) (fun x hx=>List.mem_append.2 (.inl hx))
    have hs:∀v,SVR ν (jdy E++F) (.own b) v→SVR ν (jdy E++F) (.fz t L) v:=fun v hv=>by
     obtain⟨rfl,_⟩:=hv
     exact⟨hE.1,k1⟩
    have h1:ConX B ro e c { S with fr:=S.fr.map (fun x=>(x.1,SV.sub b (.fz t L) x.2)),mv:=(jlx S.mv b).map (fun x=>(x.1,SB.sub b (.fz t L) x.2)) } tm H nx ν (jdy E++F) M1 (E++R):=by
     refine⟨hM.hk,fun n v hv=>?_,hM.ov,jpg hs hM.mv,hM.wr,hM.mc,hM.fz,hM.gl⟩
     rcases j6s hv with h2 | ⟨u,h2,rfl⟩
     ·exact hM.fr n v h2
     ·exact j74 hs _ _ (hM.fr n u h2)
    obtain⟨F',M',R',q1,q2,q3⟩:=jz1 bs (ss:=SV.subL b (.fz t L) ss) h1
    exact⟨F',M',R',q1,fun x hx=>q2 x (List.mem_append.2 (.inr hx)),fun vs hv=>q3 vs (jpd hs _ _ (jbk (fun x hx=>List.mem_append.2 (.inr hx)) _ _ hv))⟩
   ·exact jz1 bs h
end X
end Go.Vm
