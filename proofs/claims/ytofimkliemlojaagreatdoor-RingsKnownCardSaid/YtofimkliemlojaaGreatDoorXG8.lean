/-
  Functions that change what their arguments lead to: captured variables, rows.
  A jk9 function that sorts a row of one's own.
-/
import Derived.Test.YtofimkliemlojaaGreatDoorXG7
set_option linter.unusedSimpArgs false
set_option linter.unusedVariables false
set_option linter.unusedSectionVars false
set_option linter.unnecessarySimpa false
namespace Go.Vm
namespace X
open W
variable {B:Base} {call:FuncId→List AV→Tr Blk→Nat→Nat→Out} {ro:Nat} {e:Env} {c:Cnv} {S:St} {tm:Tr AV} {H:Tr Blk} {nx:Nat} {ν:Nm} {F:jal} {M R:List Ent}
inductive Ak where
 | v (r:Rep)
 | pd (t:Ty)
 | cell (r:Rep)
 | row (t:Ty)
 | self
@[reducible] def Ak.den:Ak→Type
  | .v r=>r.den
  | .pd t=>t.den
  | .cell r=>r.den
  | .row t=>List t.den
  | .self=>Unit
@[reducible] def Ak.rden:Ak→Type
  | .cell r=>r.den
  | .row t=>List t.den
  | _=>Unit
@[reducible] def kdl:List Ak→Type
  | []=>Unit
  | k::l=>k.den×kdl l
@[reducible] def kdk:List Ak→Type
  | []=>Unit
  | k::l=>k.rden×kdk l
def knd (F:jal) (f:FuncId) (caps:List AV):(k:Ak)→k.den→AV→List Ent→Prop
 | .v r,x,a,E=>jxc F r x a E
 | .pd t,x,a,E=>(∃b l,a=.ptr b 0∧(b,HB.cells l)∈F∧t.ok=true∧t.size≤l.length∧jb5 F t x (l.take t.size))∧E=[]
 | .cell r,x,a,E=>∃b m E',a=.ptr b 0∧E=E'++[⟨b,true,.cells m⟩]∧j9w F r x m E'
 | .row t,x,a,E=>j1p F t x none a E
 | .self,_,a,E=>(∃b,a=.ptr b 0∧(b,HB.cells [.fn (.func f) [] caps])∈F)∧E=[]
def kdd (F:jal) (f:FuncId) (caps:List AV):(ks:List Ak)→kdl ks→List AV→List Ent→Prop
 | [],_,vs,E=>vs=[]∧E=[]
 | k::ks,x,vs,E=>∃a vs' E1 E2,vs=a::vs'∧E=E2++E1∧knd F f caps k x.1 a E1∧kdd F f caps ks x.2 vs' E2
def km7 (F:jal):(k:Ak)→k.rden→AV→List Ent→Prop
 | .cell r,y,a,E=>∃b m E',a=.ptr b 0∧E=E'++[⟨b,true,.cells m⟩]∧j9w F r y m E'
 | .row t,y,a,E=>j1p F t y none a E
 | .v _,_,_,E | .pd _,_,_,E | .self,_,_,E=>E=[]
def j57 (F:jal):(ks:List Ak)→kdk ks→List AV→List Ent→Prop
 | [],_,vs,E=>vs=[]∧E=[]
 | k::ks,y,vs,E=>∃a vs' E1 E2,vs=a::vs'∧E=E2++E1∧km7 F k y.1 a E1∧j57 F ks y.2 vs' E2
theorem kde {F F':jal} (hF:∀x∈F,x∈F') {f:FuncId} {caps:List AV}:∀(k:Ak) {x:k.den} {a:AV} {E:List Ent},knd F f caps k x a E→knd F' f caps k x a E
 | .v r,x,a,E,h=>jsj hF h
 | .pd t,x,a,E,⟨⟨b,l,h1,h2,h3,h4,h5⟩,h6⟩=>⟨⟨b,l,h1,hF _ h2,h3,h4,jaz hF t _ _ h5⟩,h6⟩
 | .cell r,x,a,E,⟨b,m,E',h1,h2,h3⟩=>⟨b,m,E',h1,h2,jiy hF r _ _ _ h3⟩
 | .row t,x,a,E,⟨y,h1,h2⟩=>⟨y,h1,jf8 hF h2⟩
 | .self,x,a,E,⟨⟨b,h1,h2⟩,h3⟩=>⟨⟨b,h1,hF _ h2⟩,h3⟩
theorem j4c {F F':jal} (hF:∀x∈F,x∈F'):∀(k:Ak) {y:k.rden} {a:AV} {E:List Ent},km7 F k y a E→km7 F' k y a E
 | .v r,y,a,E,h=>h
 | .pd t,y,a,E,h=>h
 | .self,y,a,E,h=>h
 | .cell r,y,a,E,⟨b,m,E',h1,h2,h3⟩=>⟨b,m,E',h1,h2,jiy hF r _ _ _ h3⟩
 | .row t,y,a,E,⟨z,h1,h2⟩=>⟨z,h1,jf8 hF h2⟩
theorem jy8 {F F':jal} (hF:∀x∈F,x∈F'):∀ {ks:List Ak} {y:kdk ks} {vs:List AV} {E:List Ent},j57 F ks y vs E→j57 F' ks y vs E
 | [],y,vs,E,h=>h
 | k::ks,y,vs,E,⟨a,vs',E1,E2,h1,h2,h3,h4⟩=>⟨a,vs',E1,E2,h1,h2,j4c hF k h3,jy8 hF h4⟩
structure TR where
 f:FuncId
 np:Nat
 ks:List Ak
 outs:List Rep
 run:kdl ks→Option (jj5 outs×kdk ks)
def TR.OK (B:Base) (call:FuncId→List AV→Tr Blk→Nat→Nat→Out) (t:TR):Prop:=
 ∀a r y,t.run a=some (r,y)→∀ro O E0 H nx,HK B ro (E0++O) H nx→(∀x∈E0,x.w=true)→∀A:jal,(∀x∈A,Has O x.1 x.2∨ji3 B x)→∀vs,kdd A t.f (vs.drop t.np) t.ks a vs E0→
  ∃v E Er N H' nx' F',call t.f vs H nx ro=some (v,H',nx')∧HK B ro (E++(Er++(N++O))) H' nx'∧(∀x∈E++Er,x.w=true)∧(∀x∈F',Has N x.1 x.2∨x∈A∨ji3 B x)∧kgg F' t.outs r v E∧j57 F' t.ks y vs Er
def kap:List SV→List SV→Bool
 | [],[]=>true
 | a::l,b::m=>(match ptB a,ptB b with
   | some (x,o),some (y,p)=>x.beq y&&o.beq p
   | _,_=>false)&&kap l m
 | _,_=>false
theorem jzn:∀ {l m:List SV} {u v:List AV},kap l m=true→jbt ν F l u→jbt ν F m v→u=v
 | [],[],u,v,_,h1,h2=>by simp only[jbt] at h1 h2;rw[h1,h2]
 | a::l,b::m,u,v,h,⟨x,u',e1,h1,h2⟩,⟨y,v',e2,h3,h4⟩=>by
   simp only[kap,Bool.and_eq_true] at h
   obtain⟨h,h5⟩:=h
   subst e1;subst e2
   split at h<;>try (cases h;done)
   rename_i bx ox b2 o2 q1 q2
   simp only[Bool.and_eq_true,jac,decide_eq_true_eq] at h
   obtain⟨rfl,rfl⟩:=h
   rw[jv2 q1 h1,jv2 q2 h3,jzn h5 h2 h4]
 | [],_::_,u,v,h,_,_=>by cases h
 | _::_,[],u,v,h,_,_=>by cases h
def jyc (f:FuncId) (caps:List SV) (nc:Nat):(k:Ak)→Mem→SV→Option (Option Bool×Mem×k.den)
 | .v r,mv,s=>kmp r mv s
 | .pd t,mv,s=>match s with
   | .nptr b t' x 0=>bif t.ok then(if h:t'=t then some (none,mv,h▸x) else none) else none
   | .ptr b 0=>match lkM mv b with
     | some (.lit cs)=>jxz (.d t) (jmc mv b) cs
     | _=>none
   | _=>none
 | .cell r,mv,s=>match s with
   | .ptr b 0=>bif Nat.blt b nc then(match lkM mv b with
     | some (.lit cs)=>jxz r (jmc mv b) cs
     | _=>none) else none
   | _=>none
 | .row t,mv,s=>match s with
   | .own n=>bif Nat.blt n nc then(match jr4 t mv (.own n) with
     | some (c,mv,L,_)=>some (c,mv,L)
     | none=>none) else none
   | _=>none
 | .self,mv,s=>match s with
   | .ptr b 0=>match lkM mv b with
     | some (.lit [.fn f' [] cs])=>bif Nat.beq f' f&&kap cs caps then some (none,jmc mv b,()) else none
     | _=>none
   | .cptr b f' k cs=>bif Nat.beq f' f&&kap (cs.set k (.cptr b f' k cs)) caps then some (none,mv,()) else none
   | _=>none
def kae (f:FuncId) (caps:List SV) (nc:Nat):(ks:List Ak)→Mem→List SV→Option (Option Bool×Mem×kdl ks)
 | [],mv,ss=>match ss with
   | []=>some (none,mv,())
   | _=>none
 | k::ks,mv,ss=>match ss with
   | s::ss=>match jyc f caps nc k mv s with
     | some (c1,mv,x)=>match kae f caps nc ks mv ss with
       | some (c2,mv,y)=>some (kdj c1 c2,mv,(x,y))
       | none=>none
     | none=>none
   | _=>none
def kou (ν:Nm) (nc:Nat) (k:Ak) (s:SV) (v:AV):Prop:=match k with
 | .cell _=>∃b,s=.ptr b 0∧v=.ptr (ν b).1 0∧b<nc
 | .row _=>∃n,s=.own n∧v=(ν n).2∧(∀k o m c z,(ν n).2=.sl k o m c z→k=(ν n).1)∧n<nc
 | _=>True
def ki4 (ν:Nm) (nc:Nat):List Ak→List SV→List AV→Prop
 | [],ss,vs=>ss=[]∧vs=[]
 | k::ks,ss,vs=>∃s ss' v vs',ss=s::ss'∧vs=v::vs'∧kou ν nc k s v∧ki4 ν nc ks ss' vs'
theorem j2n {E:List Ent} (h:ConX B ro e (c.park E) S tm H nx ν F M R):ConX B ro e c S tm H nx ν (jd9 E++F) M (E++R):=by
 have up:∀x∈F,x∈jd9 E++F:=fun x hx=>List.mem_append.2 (.inr hx)
 refine⟨h.hk.perm ?_,fun n v hv=>je7 up _ _ (h.fr n v hv),jbb up _ _ h.ov,jk5 up h.mv,h.wr,jib up h.mc,fun x hx=>?_,h.gl⟩
 ·have e1:(c.park E).O0=E++c.O0:=by simp[Cnv.O0,Cnv.park]
  rw[e1]
  show(M++(c.Mc++((E++R)++c.O0))).Perm (M++(c.Mc++(R++(E++c.O0))))
  rw[List.append_assoc]
  exact List.Perm.append_left _ (List.Perm.append_left _ (jd0 R E _).symm)
 ·rw[List.append_assoc]
  rcases List.mem_append.1 hx with hx | hx
  ·exact .inl (Has.append_left (jwt x hx))
  ·exact(h.fz x hx).imp (fun h=>Has.append_right h) id
theorem jiq {c:Cnv} {E E':List Ent}:(c.park E).park E'=c.park (E'++E):=by simp[Cnv.park]
theorem kge {b n:Nat} (h:Nat.blt b n=true):b<n:=by
 have:b+1≤n:=by simpa[Nat.blt] using h
 omega
theorem kad {f:FuncId} {caps:List SV} {nc:Nat} {k:Ak} (h:ConX B ro e c S tm H nx ν F M R) {s:SV} {cc:Option Bool} {mv:Mem} {x:k.den} (hs:jyc f caps nc k S.mv s=some (cc,mv,x)) (hc:okc cc=true) {v:AV} (hv:SVR ν F s v) {cv:List AV} (hcv:jbt ν F caps cv):
  ∃E F' M' R',ConX B ro e (c.park E) { S with mv:=mv } tm H nx ν F' M' R'∧(∀x∈E,x.w=true)∧(∀x∈F,x∈F')∧knd F' f cv k x v E∧kou ν nc k s v:=by
 cases k with
 | v r=>
   obtain⟨E,F',M',R',k1,k2,k3,k4⟩:=j5q h hs hc hv
   exact⟨E,F',M',R',k1,k2,k3,k4,trivial⟩
 | pd t=>
   simp only[jyc] at hs
   split at hs<;>try (cases hs;done)
   ·rename_i b t' x'
    obtain⟨ht,hs⟩:=jaf hs
    split at hs<;>try (cases hs;done)
    rename_i e1
    subst e1
    cases hs
    obtain⟨rfl,l,h1,h2,h3⟩:=hv
    exact⟨[],F,M,R,h,fun _ h=>(by cases h),fun _ h=>h,⟨⟨_,l,rfl,h1,ht,h2,h3⟩,rfl⟩,trivial⟩
   ·rename_i b
    split at hs<;>try (cases hs;done)
    rename_i cs hb
    simp only[SVR] at hv
    subst hv
    obtain⟨E1,M1,⟨w,m,rfl,hm⟩,hw,hC⟩:=h.park hb
    obtain⟨E2,F',M',R',k1,k2,k3,k4⟩:=jnm (.d t) (S:={ S with mv:=jmc S.mv b }) hC hs hc hm
    obtain⟨ht,k4,rfl⟩:=k4
    rw[kee] at k1
    have hpf:=j2n k1
    have jbg:=jam t _ _ k4
    refine⟨[],_,_,_,hpf,fun _ h=>(by cases h),fun y hy=>List.mem_append.2 (.inr (k3 y hy)),⟨⟨_,m,rfl,?_,ht,Nat.le_of_eq jbg.symm,?_⟩,rfl⟩,trivial⟩
    ·exact List.mem_append.2 (.inl (List.mem_singleton.2 rfl))
    ·rw[←jbg,List.take_length]
     exact jaz (fun y hy=>List.mem_append.2 (.inr hy)) t _ _ k4
 | cell r=>
   simp only[jyc] at hs
   split at hs<;>try (cases hs;done)
   rename_i b
   obtain⟨hb0,hs⟩:=jaf hs
   split at hs<;>try (cases hs;done)
   rename_i cs hb
   simp only[SVR] at hv
   subst hv
   obtain⟨E1,M1,⟨w,m,rfl,hm⟩,hw,hC⟩:=h.park hb
   have ew:=hw _ (List.mem_singleton.2 rfl)
   simp only at ew
   subst ew
   obtain⟨E2,F',M',R',k1,k2,k3,k4⟩:=jnm r (S:={ S with mv:=jmc S.mv b }) hC hs hc hm
   rw[jiq] at k1
   refine⟨_,F',M',R',k1,fun y hy=>?_,k3,⟨_,m,E2,rfl,rfl,k4⟩,_,rfl,rfl,kge hb0⟩
   rcases List.mem_append.1 hy with hy | hy
   ·exact k2 y hy
   ·exact hw y hy
 | row t=>
   simp only[jyc] at hs
   split at hs<;>try (cases hs;done)
   rename_i n
   obtain⟨hb0,hs⟩:=jaf hs
   split at hs<;>try (cases hs;done)
   rename_i c1 mv1 L cap hx
   cases hs
   obtain⟨E,M',k1,k2,k3⟩:=jkx h hx hc hv
   refine⟨E,F,M',R,k1,k2,fun _ h=>h,k3 none (fun m hm=>by cases hm),n,rfl,hv.1,?_,kge hb0⟩
   simp only[jr4] at hx
   split at hx<;>try (cases hx;done)
   rename_i t' L' cap' hl
   obtain⟨E0,⟨_,hE0⟩,_⟩:=h.own hl
   have hd:∃sz,HdR (ν n) t'.size L'.length cap' sz:=by
    rcases hE0 with⟨hd,_⟩ | ⟨_,_,_,hd,_⟩
    ·exact⟨_,hd⟩
    ·exact⟨_,hd⟩
   obtain⟨sz,hd⟩:=hd
   intro k o n c z hk
   rcases hd with⟨e1,_⟩ | ⟨_,_,e1,_⟩
   ·rw[e1] at hk;cases hk
   ·rw[e1] at hk;cases hk;rfl
 | self=>
   simp only[jyc] at hs
   split at hs<;>try (cases hs;done)
   ·rename_i b
    split at hs<;>try (cases hs;done)
    rename_i f' cs hb
    obtain⟨hq,hs2⟩:=jaf hs
    clear hs
    simp only[Bool.and_eq_true,jac,decide_eq_true_eq] at hq
    obtain⟨rfl,hq⟩:=hq
    cases hs2
    simp only[SVR] at hv
    subst hv
    obtain⟨E1,M1,⟨w,m,rfl,hm⟩,hw,hC⟩:=h.park hb
    obtain⟨u,_,rfl,⟨a',c',rfl,h1,h2⟩,rfl⟩:=hm
    simp only[jbt] at h1
    subst h1
    have:=jzn hq h2 hcv
    subst this
    exact⟨[],_,_,_,j2n hC,fun _ h=>(by cases h),fun y hy=>List.mem_append.2 (.inr hy),⟨⟨_,rfl,List.mem_append.2 (.inl (List.mem_singleton.2 rfl))⟩,rfl⟩,trivial⟩
   ·rename_i b f' k cs
    obtain⟨hq,hs2⟩:=jaf hs
    clear hs
    simp only[Bool.and_eq_true,jac,decide_eq_true_eq] at hq
    obtain⟨rfl,hq⟩:=hq
    cases hs2
    have hv0:=hv
    obtain⟨rfl,c',h1,h2,h3⟩:=hv
    have h4:=ju1 k h3 hv0
    rw[List.set_set] at h4
    have h5:c'.set k (.ptr (ν b).1 0)=c':=by
     obtain⟨hk,h5⟩:=List.getElem?_eq_some_iff.1 h2
     rw[←h5,List.set_getElem_self]
    rw[h5] at h4
    have:=jzn hq h4 hcv
    subst this
    exact⟨[],F,M,R,h,fun _ h=>(by cases h),fun _ h=>h,⟨⟨_,rfl,h1⟩,rfl⟩,trivial⟩
theorem j6i {f:FuncId} {caps:List SV} {nc:Nat}:∀(ks:List Ak) {c:Cnv} {S:St} {F:jal} {M R:List Ent} (h:ConX B ro e c S tm H nx ν F M R) {ss:List SV} {cc:Option Bool} {mv:Mem} {x:kdl ks} (hs:kae f caps nc ks S.mv ss=some (cc,mv,x)) (hc:okc cc=true) {vs:List AV} (hv:jbt ν F ss vs) {cv:List AV} (hcv:jbt ν F caps cv),
  ∃E F' M' R',ConX B ro e (c.park E) { S with mv:=mv } tm H nx ν F' M' R'∧(∀x∈E,x.w=true)∧(∀x∈F,x∈F')∧kdd F' f cv ks x vs E∧ki4 ν nc ks ss vs
 | [],c,S,F,M,R,h,ss,cc,mv,x,hs,hc,vs,hv,cv,hcv=>by
   simp only[kae] at hs
   split at hs<;>cases hs
   exact⟨[],F,M,R,h,fun _ h=>(by cases h),fun _ h=>h,⟨hv,rfl⟩,rfl,hv⟩
 | k::ks,c,S,F,M,R,h,ss,cc,mv,x,hs,hc,vs,hv,cv,hcv=>by
   simp only[kae] at hs
   split at hs<;>try (cases hs;done)
   rename_i s ss
   split at hs<;>try (cases hs;done)
   rename_i c1 mv1 x1 h1
   split at hs<;>try (cases hs;done)
   rename_i c2 mv2 x2 h2
   cases hs
   rw[jpu] at hc
   obtain⟨v,vs',rfl,v1,v2⟩:=hv
   obtain⟨E1,F1,M1,R1,k1,k2,k3,k4,k5⟩:=kad h h1 hc.1 v1 hcv
   obtain⟨E2,F2,M2,R2,j1,j2,j3,j4,j5⟩:=j6i ks (S:={ S with mv:=mv1 }) k1 h2 hc.2 (jbb k3 _ _ v2) (jbb k3 _ _ hcv)
   rw[jiq] at j1
   refine⟨E2++E1,F2,M2,R2,j1,fun y hy=>?_,fun y hy=>j3 y (k3 y hy),⟨v,vs',E1,E2,rfl,rfl,kde j3 k k4,j4⟩,s,ss,v,vs',rfl,rfl,k5,j5⟩
   rcases List.mem_append.1 hy with hy | hy
   ·exact j2 y hy
   ·exact k2 y hy
def kha:(k:Ak)→k.rden→SV→Env→St→Option St
 | .cell r,y,s,e,S=>match s with
   | .ptr b 0=>match kew r y e S with
     | some (l,S1)=>some { S1 with mv:=(b,.lit l)::S1.mv }
     | none=>none
   | _=>none
 | .row t,y,s,e,S=>match s with
   | .own n=>some { S with mv:=(n,.arr t y none)::S.mv }
   | _=>none
 | .v _,_,_,_,S | .pd _,_,_,_,S | .self,_,_,_,S=>some S
def kj9:(ks:List Ak)→kdk ks→List SV→Env→St→Option St
 | [],_,ss,e,S=>match ss with
   | []=>some S
   | _=>none
 | k::ks,y,ss,e,S=>match ss with
   | s::ss=>match kha k y.1 s e S with
     | some S1=>kj9 ks y.2 ss e S1
     | none=>none
   | _=>none
theorem keb {k:Ak} {E:List Ent} (h:ConX B ro e (c.park E) S tm H nx ν F M R) {y:k.rden} {v:AV} (hr:km7 F k y v E) (hw:∀x∈E,x.w=true) {s:SV} {ν0:Nm} {nc:Nat} (hp:kou ν0 nc k s v) (hn:∀b,b<nc→ν b=ν0 b) (hnc:nc≤S.nc) {S':St} (hs:kha k y s e S=some S'):
  ∃ν' M',ConX B ro e c S' tm H nx ν' F M' R∧(∀b,b<S.nc→ν' b=ν b)∧S.nc≤S'.nc:=by
 cases k with
 | v r=>cases hs;cases hr;exact⟨ν,M,h,fun _ _=>rfl,Nat.le_refl _⟩
 | pd r=>cases hs;cases hr;exact⟨ν,M,h,fun _ _=>rfl,Nat.le_refl _⟩
 | self=>cases hs;cases hr;exact⟨ν,M,h,fun _ _=>rfl,Nat.le_refl _⟩
 | cell r=>
   obtain⟨b,rfl,e1,hb⟩:=hp
   simp only[kha] at hs
   split at hs<;>cases hs
   rename_i l S1 hi
   obtain⟨b',m,E',e2,rfl,hr⟩:=hr
   rw[e1] at e2
   have e2:(ν0 b).1=b':=by simpa using e2
   rw[←jiq] at h
   obtain⟨ν',M',k1,k2,k3,k4,k5⟩:=js8 r h hr (fun x hx=>hw x (by simp[hx])) hi
   have eb:(ν' b).1=b':=by rw[k3 b (by omega),hn b hb,e2]
   exact⟨ν',_,jx8 k1 (b:=b) (sb:=.lit l) ⟨true,m,by rw[eb],k2⟩ (fun x hx=>hw x (by simp at hx;simp[hx])),k3,k5⟩
 | row t=>
   obtain⟨n,rfl,e1,e2,hb⟩:=hp
   cases hs
   obtain⟨x,hx,h0,h1⟩:=hr
   have e3:(ν n).2=x.2:=by rw[hn n hb,←e1,hx]
   have e4:∀k o m c z,(ν n).2=.sl k o m c z→k=(ν n).1:=by rw[hn n hb];exact e2
   refine⟨ν,_,jx8 h (b:=n) (sb:=.arr t y none) ⟨h0,?_⟩ hw,fun _ _=>rfl,Nat.le_refl _⟩
   have hd:∀ {sz:Option Nat},HdR x t.size (List.length (α:=t.den) y) none sz→HdR (ν n) t.size (List.length (α:=t.den) y) none sz∧((∃q,sz=some q)→(ν n).1=x.1):=by
    intro sz hd
    rcases hd with⟨g1,g2,g3⟩ | ⟨c',q,g1,g2,g3⟩
    ·exact⟨.inl ⟨e3.trans g1,g2,g3⟩,fun⟨q,hq⟩=>by rw[g2] at hq;cases hq⟩
    ·have:=e4 _ _ _ _ _ (e3.trans g1)
     exact⟨.inr ⟨c',q,by rw[e3,←this];exact g1,g2,g3⟩,fun _=>this.symm⟩
   rcases h1 with⟨g1,g2⟩ | ⟨w,m,g1,g2,g3⟩
   ·exact .inl ⟨(hd g1).1,g2⟩
   ·exact .inr ⟨w,m,by rw[(hd g2).2 ⟨_,rfl⟩];exact g1,(hd g2).1,g3⟩
theorem ka0:∀(ks:List Ak) {e:Env} {c:Cnv} {S:St} {ν:Nm} {M E:List Ent} (h:ConX B ro e (c.park E) S tm H nx ν F M R) {y:kdk ks} {vs:List AV} (hr:j57 F ks y vs E) (hw:∀x∈E,x.w=true) {ss:List SV} {ν0:Nm} {nc:Nat} (hp:ki4 ν0 nc ks ss vs) (hn:∀b,b<nc→ν b=ν0 b) (hnc:nc≤S.nc) {S':St} (hs:kj9 ks y ss e S=some S'),
  ∃ν' M',ConX B ro e c S' tm H nx ν' F M' R
 | [],e,c,S,ν,M,E,h,y,vs,⟨hv,hE⟩,hw,ss,ν0,nc,hp,hn,hnc,S',hs=>by
   subst hE
   simp only[kj9] at hs
   split at hs<;>cases hs
   exact⟨ν,M,h⟩
 | k::ks,e,c,S,ν,M,E,h,y,vs,⟨a,vs',E1,E2,hv,hE,h1,h2⟩,hw,ss,ν0,nc,hp,hn,hnc,S',hs=>by
   subst hE
   obtain⟨s,ss',v,vs2,rfl,hv2,p1,p2⟩:=hp
   rw[hv] at hv2
   cases hv2
   simp only[kj9] at hs
   split at hs<;>try (cases hs;done)
   rename_i S1 hs1
   have h':ConX B ro e ((c.park E2).park E1) S tm H nx ν F M R:=by
    have:=h.reP (P':=E1++(E2++c.P)) (by
     show(E1++(E2++c.P)).Perm ((E2++E1)++c.P)
     rw[←List.append_assoc]
     exact List.Perm.append_right _ List.perm_append_comm)
    exact this
   obtain⟨ν1,M1,k1,k2,k3⟩:=keb h' h1 (fun x hx=>hw x (by simp[hx])) p1 hn hnc hs1
   exact ka0 ks k1 h2 (fun x hx=>hw x (by simp[hx])) p2 (fun b hb=>by rw[k2 b (by omega),hn b hb]) (by omega) hs
def kit {α:Type} (t:TR) (ss:List SV) (e:Env) (S:St) (k:SV→St→Option α):Option α:=
 match kae t.f (ss.drop t.np) S.nc t.ks S.mv ss with
 | some (c,mv,a)=>j0t c ((t.run a).bind fun r=>match jwm t.outs r.1 e { S with mv:=mv } with
    | some (rs,S1)=>match kj9 t.ks r.2 ss { e with ov:=rs++e.ov } S1 with
      | some S2=>k (j2o rs) S2
      | none=>none
    | none=>none)
 | none=>none
theorem kfe {t:TR} (ht:t.OK B call) {α:Type} {ss:List SV} {k:SV→St→Option α} {r:α} (hs:kit t ss e S k=some r) (h:ConX B ro e c S tm H nx ν F M R) {vs:List AV} (hv:jbt ν F ss vs):
  ∃v H' nx' s S' ν' F' M' R',call t.f vs H nx ro=some (v,H',nx')∧ConX B ro e c S' tm H' nx' ν' F' M' R'∧SVR ν' F' s v∧k s S'=some r:=by
 unfold kit at hs
 split at hs<;>try (cases hs;done)
 rename_i cc mv a ha
 obtain⟨hc,hs⟩:=jca hs
 obtain⟨⟨y,z⟩,hy,hs⟩:=Option.bind_eq_some_iff.1 hs
 split at hs<;>try (cases hs;done)
 rename_i rs S1 hi
 split at hs<;>try (cases hs;done)
 rename_i S2 hput
 obtain⟨E0,F1,M1,R1,q1,q2,q3,q4,q5⟩:=j6i t.ks h ha hc hv (jch t.np hv)
 have p0:(M1++(c.Mc++(R1++(c.park E0).O0))).Perm (E0++(M1++(c.Mc++(R1++c.O0)))):=by
  have e1:(c.park E0).O0=E0++c.O0:=by simp[Cnv.O0,Cnv.park]
  rw[e1]
  have p1:(R1++(E0++c.O0)).Perm (E0++(R1++c.O0)):=jd0 R1 E0 _
  have p2:(c.Mc++(R1++(E0++c.O0))).Perm (E0++(c.Mc++(R1++c.O0))):=(List.Perm.append_left c.Mc p1).trans (jd0 c.Mc E0 _)
  exact(List.Perm.append_left M1 p2).trans (jd0 M1 E0 _)
 have hk:HK B ro (E0++(M1++(c.Mc++(R1++c.O0)))) H nx:=q1.hk.perm p0.symm
 have hA:∀x∈F1,Has (M1++(c.Mc++(R1++c.O0))) x.1 x.2∨ji3 B x:=fun x hx=>by
  rcases q1.fz x hx with h1 | h1
  ·obtain⟨w,hm⟩:=h1.mem
   left
   exact Has.of_mem (w:=w) (by
    simp only[Cnv.O0]
    rcases List.mem_append.1 hm with h2 | h2
    ·simp[h2]
    ·have h3:(⟨x.1,w,x.2⟩:Ent)∈c.OF:=h2
     simp[h3])
  ·exact .inr h1
 obtain⟨v,E,Er,N,H',nx',F',k1,k2,k3,k4,k5,k6⟩:=ht a y z hy ro _ E0 H nx hk q2 F1 hA vs q4
 have hC:=jte { S with mv:=mv } F1 M1 R1 F' E0 q1 (E++Er) N H' nx' (by rw[List.append_assoc];exact k2) (fun x hx=>by
  rcases k4 x hx with h1 | h1 | h1
  ·exact .inl (Has.append_left h1)
  ·exact(q1.fz x h1).imp (fun h=>Has.append_right h) id
  ·exact .inr h1)
 rw[←jiq] at hC
 have up:∀x∈F',x∈F'++F1:=fun x hx=>List.mem_append.2 (.inl hx)
 obtain⟨us,rfl,k5⟩:=k5
 obtain⟨ν1,M2,j1,j2,j3,j4,j5⟩:=jrz t.outs hC (jk4 up k5) (fun x hx=>k3 x (by simp[hx])) hi
 have j1':ConX B ro { e with ov:=rs++e.ov } (({ c with oa:=us++c.oa }:Cnv).park Er) S1 tm H' nx' ν1 (F'++F1) M2 (N++R1):=
  ⟨j1.hk,j1.fr,jbc j2 j1.ov,j1.mv,j1.wr,j1.mc,j1.fz,j1.gl⟩
 obtain⟨ν2,M3,g1⟩:=ka0 t.ks j1' (jy8 up k6) (fun x hx=>k3 x (by simp[hx])) q5 (fun b hb=>j3 b hb) j5 hput
 obtain⟨g2,g3⟩:=jia (jbi j2) g1.ov
 exact⟨_,H',nx',_,S2,ν2,_,M3,_,k1,⟨g1.hk,g1.fr,g3,g1.mv,g1.wr,g1.mc,g1.fz,g1.gl⟩,jzy g2,hs⟩
def ke3:List TR→FuncId→Option TR
 | [],_=>none
 | t::r,f=>bif Nat.beq t.f f then some t else ke3 r f
theorem j7p:∀ {T:List TR} {f:FuncId} {t:TR},ke3 T f=some t→t∈T∧t.f=f
 | [],f,t,h=>by cases h
 | t'::r,f,t,h=>by
   simp only[ke3] at h
   cases hb:Nat.beq t'.f f<;>rw[hb] at h<;>simp only[cond_true,cond_false] at h
   ·obtain⟨h1,h2⟩:=j7p h
    exact⟨List.mem_cons_of_mem _ h1,h2⟩
   ·cases h
    rw[jac,decide_eq_true_eq] at hb
    exact⟨List.mem_cons_self ..,hb⟩
def kne (T:List TR) (ch:CH):CH:=fun α q f ss e S k=>match ke3 T f with
 | some t=>sw q none (kit t ss e S k)
 | none=>ch α q f ss e S k
theorem kaf {T:List TR} (hT:∀t∈T,t.OK B call) {ch:CH} (hch:HOK B call ch):HOK B call (kne T ch):=by
 intro α q f ss e S k r hs ro c tm H nx ν F M R h vs hv
 unfold kne at hs
 split at hs
 ·rename_i t ht
  obtain⟨h1,rfl⟩:=j7p ht
  obtain⟨hq,hs⟩:=kju hs
  subst hq
  exact kfe (hT t h1) hs h hv
 ·exact hch α q f ss e S k r hs ro c tm H nx ν F M R h vs hv
def kb2:(k:Ak)→k.den→Env→St→Option (SV×St)
 | .v r,x,e,S=>kmj r x e S
 | .pd t,x,e,S=>bif fresh e S then some (.nptr S.nc t x 0,{ S with nc:=S.nc+1 }) else none
 | .cell r,x,e,S=>match kew r x e S with
   | some (l,S1)=>bif fresh { e with ov:=l++e.ov } S1 then some (.ptr S1.nc 0,jyo S1 (.lit l)) else none
   | none=>none
 | .row t,x,e,S=>match jwo t x none e S with
   | some ([s],S1)=>some (s,S1)
   | _=>none
 | .self,_,_,S=>some (.nils,S)
def knn:(ks:List Ak)→kdl ks→Env→St→Option (List SV×St)
 | [],_,e,S=>some ([],S)
 | k::ks,x,e,S=>match kb2 k x.1 e S with
   | some (s,S1)=>match knn ks x.2 { e with ov:=s::e.ov } S1 with
     | some (ss,S2)=>some (s::ss,S2)
     | none=>none
   | none=>none
def jyf:List Ak→Option Nat
 | []=>none
 | .self::_=>some 0
 | .v _::l | .pd _::l | .cell _::l | .row _::l=>(jyf l).map (·+1)
def jnh:Ak→Bool
 | .self=>true
 | _=>false
def ko0 (f:FuncId) (np:Nat) (ks:List Ak) (ss:List SV) (S:St) (G:Mem):Option (List SV×St):=match jyf ks with
 | none=>some (ss,S)
 | some i=>bif fresh ⟨[],ss,[],G,0⟩ S&&np.ble i&&(ks.drop (i+1)).all (fun k=> !jnh k) then some (ss.set i (.cptr S.nc f (i-np) (ss.drop np)),{ S with nc:=S.nc+1 }) else none
def khm:List Ak→List AV→List AV
 | k::ks,v::vs=>(bif jnh k then .nils else v)::khm ks vs
 | _,vs=>vs
theorem kex {f:FuncId} {cv:List AV} {k:Ak} {E:List Ent} (h:ConX B ro e (c.park E) S tm H nx ν F M R) {x:k.den} {v:AV} (hr:knd F f cv k x v E) (hw:∀x∈E,x.w=true) {s:SV} {S':St} (hs:kb2 k x e S=some (s,S')):
  ∃ν' M',ConX B ro e c S' tm H nx ν' F M' R∧SVR ν' F s (bif jnh k then .nils else v)∧S'.fr=S.fr:=by
 cases k with
 | v r=>
   obtain⟨ν',M',k1,k2,k3,k4,k5⟩:=j5l h hr hw hs
   exact⟨ν',M',k1,k2,k4⟩
 | pd t=>
   simp only[kb2] at hs
   obtain⟨hf,hs⟩:=jaf hs
   cases hs
   obtain⟨⟨b,l,rfl,h1,h2,h3,h4⟩,rfl⟩:=hr
   have h':=h.name hf (b,.nils)
   refine⟨_,M,⟨h'.hk,h'.fr,h'.ov,h'.mv,h'.wr,h'.mc,h'.fz,h'.gl⟩,⟨?_,l,?_,h3,h4⟩,rfl⟩
   ·rw[ja8];rfl
   ·rw[ja8];exact h1
 | cell r=>
   simp only[kb2] at hs
   split at hs<;>try (cases hs;done)
   rename_i l S1 hi
   obtain⟨hf,hs⟩:=jaf hs
   cases hs
   obtain⟨b,m,E',rfl,rfl,hr⟩:=hr
   rw[←jiq] at h
   obtain⟨ν',M',k1,k2,k3,k4,k5⟩:=js8 r h hr (fun x hx=>hw x (by simp[hx])) hi
   have k1':ConX B ro { e with ov:=l++e.ov } (({ c with oa:=m++c.oa }:Cnv).park [⟨b,true,.cells m⟩]) S1 tm H nx ν' F M' R:=
    ⟨k1.hk,k1.fr,jbc k2 k1.ov,k1.mv,k1.wr,k1.mc,k1.fz,k1.gl⟩
   have h':=k1'.name hf (b,.nils)
   obtain⟨g2,g3⟩:=jia (jbi k2) h'.ov
   have hC:=jx8 (E:=[⟨b,true,.cells m⟩]) (b:=S1.nc) (sb:=.lit l) h' ⟨true,m,by rw[ja8],g2⟩ (fun x hx=>hw x (by simp at hx;simp[hx]))
   exact⟨_,_,⟨hC.hk,hC.fr,g3,hC.mv,hC.wr,hC.mc,hC.fz,hC.gl⟩,by simp only[jnh,cond_false,SVR,ja8],k4⟩
 | row t=>
   simp only[kb2] at hs
   split at hs<;>try (cases hs;done)
   rename_i s' S1 hi
   cases hs
   obtain⟨ν',M',k1,⟨u,_,e1,k2,e2⟩,k3,k4,k5⟩:=jni h hr hw hi
   cases e1
   exact⟨ν',M',k1,k2,k4⟩
 | self=>
   cases hs
   obtain⟨_,rfl⟩:=hr
   exact⟨ν,M,h,rfl,rfl⟩
theorem kb1 {f:FuncId} {cv:List AV}:∀(ks:List Ak) {e:Env} {c:Cnv} {S:St} {ν:Nm} {M E:List Ent} (h:ConX B ro e (c.park E) S tm H nx ν F M R) {x:kdl ks} {vs:List AV} (hr:kdd F f cv ks x vs E) (hw:∀x∈E,x.w=true) {ss:List SV} {S':St} (hs:knn ks x e S=some (ss,S')),
  ∃ν' M',ConX B ro e c S' tm H nx ν' F M' R∧jbt ν' F ss (khm ks vs)∧S'.fr=S.fr
 | [],e,c,S,ν,M,E,h,x,vs,⟨hv,hE⟩,hw,ss,S',hs=>by
   subst hE;subst hv
   cases hs
   exact⟨ν,M,h,rfl,rfl⟩
 | k::ks,e,c,S,ν,M,E,h,x,vs,⟨v,vs',E1,E2,e1,e2,h1,h2⟩,hw,ss,S',hs=>by
   subst e1;subst e2
   simp only[knn] at hs
   split at hs<;>try (cases hs;done)
   rename_i s S1 hs1
   split at hs<;>try (cases hs;done)
   rename_i ss2 S2 hs2
   cases hs
   have h':ConX B ro e ((c.park E2).park E1) S tm H nx ν F M R:=by
    have:=h.reP (P':=E1++(E2++c.P)) (by
     show(E1++(E2++c.P)).Perm ((E2++E1)++c.P)
     rw[←List.append_assoc]
     exact List.Perm.append_right _ List.perm_append_comm)
    exact this
   obtain⟨ν1,M1,k1,k2,k3⟩:=kex h' h1 (fun x hx=>hw x (by simp[hx])) hs1
   have h'':ConX B ro { e with ov:=s::e.ov } (({ c with oa:=(bif jnh k then .nils else v)::c.oa }:Cnv).park E2) S1 tm H nx ν1 F M1 R:=
    ⟨k1.hk,k1.fr,⟨_,_,rfl,k2,k1.ov⟩,k1.mv,k1.wr,k1.mc,k1.fz,k1.gl⟩
   obtain⟨ν2,M2,j1,j2,j3⟩:=kb1 ks h'' h2 (fun x hx=>hw x (by simp[hx])) hs2
   obtain⟨v2,m2,e3,q1,q2⟩:=j1.ov
   cases e3
   exact⟨ν2,M2,⟨j1.hk,j1.fr,q2,j1.mv,j1.wr,j1.mc,j1.fz,j1.gl⟩,⟨_,_,rfl,q1,j2⟩,j3.trans k3⟩
theorem jwf:∀ {ks:List Ak} {vs:List AV},(ks.all fun k=> !jnh k)=true→khm ks vs=vs
 | [],vs,_=>rfl
 | k::ks,[],_=>rfl
 | k::ks,v::vs,h=>by
   simp only[List.all_cons,Bool.and_eq_true,Bool.not_eq_true'] at h
   simp only[khm,h.1,cond_false]
   rw[jwf (by simpa using h.2)]
theorem jvr:∀ {ks:List Ak},jyf ks=none→(ks.all fun k=> !jnh k)=true
 | [],_=>rfl
 | .self::_,h=>by cases h
 | .v _::l,h | .pd _::l,h | .cell _::l,h | .row _::l,h=>by
   simp only[jyf,Option.map_eq_none_iff] at h
   simpa[jnh] using jvr h
theorem jvq {F:jal} {f:FuncId} {cv:List AV}:∀ {ks:List Ak} {i:Nat} {x:kdl ks} {vs:List AV} {E:List Ent},jyf ks=some i→((ks.drop (i+1)).all fun k=> !jnh k)=true→kdd F f cv ks x vs E→
  khm ks vs=vs.set i .nils∧∃b,vs[i]?=some (.ptr b 0)∧(b,HB.cells [.fn (.func f) [] cv])∈F
 | [],i,x,vs,E,h,_,_=>by cases h
 | .self::ks,i,x,vs,E,h,ha,⟨v,vs',E1,E2,e1,e2,⟨⟨b,h1,h3⟩,_⟩,h2⟩=>by
   cases h
   subst e1
   refine⟨?_,b,by rw[h1];rfl,h3⟩
   simp only[khm,jnh,cond_true,List.set_cons_zero]
   rw[jwf (by simpa using ha)]
 | .v _::ks,i,x,vs,E,h,ha,⟨v,vs',E1,E2,e1,e2,_,h2⟩ | .pd _::ks,i,x,vs,E,h,ha,⟨v,vs',E1,E2,e1,e2,_,h2⟩ | .cell _::ks,i,x,vs,E,h,ha,⟨v,vs',E1,E2,e1,e2,_,h2⟩ | .row _::ks,i,x,vs,E,h,ha,⟨v,vs',E1,E2,e1,e2,_,h2⟩=>by
   simp only[jyf,Option.map_eq_some_iff] at h
   obtain⟨j,hj,rfl⟩:=h
   subst e1
   obtain⟨k1,b,k2,k3⟩:=jvq hj (by simpa using ha) h2
   exact⟨by simp only[khm,jnh,cond_false,k1,List.set_cons_succ],b,by simpa using k2,k3⟩
def kd8:(k:Ak)→Mem→SV→Option (Option Bool×Mem×k.rden)
 | .cell r,mv,s=>match s with
   | .ptr b 0=>match lkM mv b with
     | some (.lit cs)=>jxz r (jmc mv b) cs
     | _=>none
   | _=>none
 | .row t,mv,s=>match s with
   | .own n=>match jr4 t mv (.own n) with
     | some (c,mv,L,_)=>some (c,mv,L)
     | none=>none
   | _=>none
 | .v _,mv,_ | .pd _,mv,_ | .self,mv,_=>some (none,mv,())
def kj6:(ks:List Ak)→Mem→List SV→Option (Option Bool×Mem×kdk ks)
 | [],mv,ss=>match ss with
   | []=>some (none,mv,())
   | _=>none
 | k::ks,mv,ss=>match ss with
   | s::ss=>match kd8 k mv s with
     | some (c1,mv,x)=>match kj6 ks mv ss with
       | some (c2,mv,y)=>some (kdj c1 c2,mv,(x,y))
       | none=>none
     | none=>none
   | _=>none
theorem kd7 {k:Ak} (h:ConX B ro e c S tm H nx ν F M R) {s:SV} {cc:Option Bool} {mv:Mem} {x:k.rden} (hs:kd8 k S.mv s=some (cc,mv,x)) (hc:okc cc=true) {v:AV} (hv:SVR ν F s v):
  ∃E F' M' R',ConX B ro e (c.park E) { S with mv:=mv } tm H nx ν F' M' R'∧(∀x∈E,x.w=true)∧(∀x∈F,x∈F')∧km7 F' k x v E:=by
 cases k with
 | v r=>cases hs;exact⟨[],F,M,R,h,fun _ h=>(by cases h),fun _ h=>h,rfl⟩
 | pd r=>cases hs;exact⟨[],F,M,R,h,fun _ h=>(by cases h),fun _ h=>h,rfl⟩
 | self=>cases hs;exact⟨[],F,M,R,h,fun _ h=>(by cases h),fun _ h=>h,rfl⟩
 | row t=>
   simp only[kd8] at hs
   split at hs<;>try (cases hs;done)
   split at hs<;>try (cases hs;done)
   rename_i c1 mv1 L cap hx
   cases hs
   obtain⟨E,M',k1,k2,k3⟩:=jkx h hx hc hv
   exact⟨E,F,M',R,k1,k2,fun _ h=>h,k3 none (fun m hm=>by cases hm)⟩
 | cell r=>
   simp only[kd8] at hs
   split at hs<;>try (cases hs;done)
   rename_i b
   split at hs<;>try (cases hs;done)
   rename_i cs hb
   simp only[SVR] at hv
   subst hv
   obtain⟨E1,M1,⟨w,m,rfl,hm⟩,hw,hC⟩:=h.park hb
   have ew:=hw _ (List.mem_singleton.2 rfl)
   simp only at ew
   subst ew
   obtain⟨E2,F',M',R',k1,k2,k3,k4⟩:=jnm r (S:={ S with mv:=jmc S.mv b }) hC hs hc hm
   rw[jiq] at k1
   refine⟨_,F',M',R',k1,fun y hy=>?_,k3,_,m,E2,rfl,rfl,k4⟩
   rcases List.mem_append.1 hy with hy | hy
   ·exact k2 y hy
   ·exact hw y hy
theorem kay:∀(ks:List Ak) {c:Cnv} {S:St} {F:jal} {M R:List Ent} (h:ConX B ro e c S tm H nx ν F M R) {ss:List SV} {cc:Option Bool} {mv:Mem} {x:kdk ks} (hs:kj6 ks S.mv ss=some (cc,mv,x)) (hc:okc cc=true) {vs:List AV} (hv:jbt ν F ss vs),
  ∃E F' M' R',ConX B ro e (c.park E) { S with mv:=mv } tm H nx ν F' M' R'∧(∀x∈E,x.w=true)∧(∀x∈F,x∈F')∧j57 F' ks x vs E
 | [],c,S,F,M,R,h,ss,cc,mv,x,hs,hc,vs,hv=>by
   simp only[kj6] at hs
   split at hs<;>cases hs
   exact⟨[],F,M,R,h,fun _ h=>(by cases h),fun _ h=>h,hv,rfl⟩
 | k::ks,c,S,F,M,R,h,ss,cc,mv,x,hs,hc,vs,hv=>by
   simp only[kj6] at hs
   split at hs<;>try (cases hs;done)
   rename_i s ss
   split at hs<;>try (cases hs;done)
   rename_i c1 mv1 x1 h1
   split at hs<;>try (cases hs;done)
   rename_i c2 mv2 x2 h2
   cases hs
   rw[jpu] at hc
   obtain⟨v,vs',rfl,v1,v2⟩:=hv
   obtain⟨E1,F1,M1,R1,k1,k2,k3,k4⟩:=kd7 h h1 hc.1 v1
   obtain⟨E2,F2,M2,R2,j1,j2,j3,j4⟩:=kay ks (S:={ S with mv:=mv1 }) k1 h2 hc.2 (jbb k3 _ _ v2)
   rw[jiq] at j1
   refine⟨E2++E1,F2,M2,R2,j1,fun y hy=>?_,fun y hy=>j3 y (k3 y hy),v,vs',E1,E2,rfl,rfl,j4c j3 k k4,j4⟩
   rcases List.mem_append.1 hy with hy | hy
   ·exact j2 y hy
   ·exact k2 y hy
def kj1 (N:Nat) (ch:CH) (G:Mem) (x:Fx) (f:FuncId) (np:Nat) (ks:List Ak) (outs:List Rep) (a:kdl ks):Option (jj5 outs×kdk ks):=
 match knn ks a ⟨[],[],[],G,0⟩ ⟨[],[],0⟩ with
 | some (ss,S)=>match ko0 f np ks ss S G with
   | some (ss,S)=>kfs N ch x ⟨[],ss,[],G,0⟩ S.mv S.nc ss fun s S=>match jva outs s with
     | some rs=>match jmb outs S.mv rs with
       | some (c1,mv,y)=>match kj6 ks mv ss with
         | some (c2,_,z)=>j0t (kdj c1 c2) (some (y,z))
         | none=>none
       | none=>none
     | none=>none
   | none=>none
 | none=>none
theorem j95 {outs:List Rep} {s:SV} {rs:List SV} {v:AV} (hrs:jva outs s=some rs) (k3:SVR ν F s v) {mv mv':Mem} {cc:Option Bool} {y:jj5 outs} (hex:jmb outs mv rs=some (cc,mv',y)):∃vs',v=W.pack vs'∧jbt ν F rs vs':=by
 unfold jva at hrs
 cases hl:outs.length.beq 1 with
 | true=>
   rw[hl] at hrs
   cases hrs
   exact⟨[v],rfl,v,[],rfl,k3,rfl⟩
 | false=>
   rw[hl] at hrs
   simp only[cond_false] at hrs
   split at hrs<;>cases hrs
   obtain⟨m,rfl,hm⟩:=k3
   have lens:∀(l:List Rep) (mv:Mem) (ss:List SV) (z:Option Bool×Mem×jj5 l),jmb l mv ss=some z→ss.length=l.length:=by
    intro l
    induction l with
    | nil=>intro mv ss z h;simp only[jmb] at h;split at h<;>cases h;rfl
    | cons a l ih=>
      intro mv ss z h
      cases l with
      | nil=>
        simp only[jmb] at h
        split at h
        ·rfl
        ·cases h
      | cons b l=>
        simp only[jmb] at h
        split at h<;>try (cases h;done)
        split at h<;>try (cases h;done)
        split at h<;>try (cases h;done)
        rename_i h2
        have:=ih _ _ _ h2
        simp only[List.length_cons] at this ⊢
        omega
   have jbg:=lens _ _ _ _ hex
   refine⟨m,?_,hm⟩
   rw[jac,decide_eq_false_iff_not,←jbg,jbi hm] at hl
   match m,hl with
   | a::b::m,_=>rfl
   | [a],hml=>simp at hml
   | [],_=>rfl
theorem kg3 {ch:CH} (hch:HOK B call ch) {G:Mem} (hG:GRel B nu0 G) {x:Fx} {f np:Nat} {ks:List Ak} {outs:List Rep} {call':FuncId→List AV→Tr Blk→Nat→Nat→Out} (hcall:∀vs H nx ro,call' f vs H nx ro=jns call ro x.cfn vs H nx):
  TR.OK B call' ⟨f,np,ks,outs,kj1 fuel ch G x f np ks outs⟩:=by
 classical
 intro a r y hr ro O E0 H nx hk hw0 A hA vs hargs
 simp only[kj1] at hr
 split at hr<;>try (cases hr;done)
 rename_i ss0 S0 hi
 split at hr<;>try (cases hr;done)
 rename_i ss S1 hfx
 have h0:ConX B ro ⟨[],[],[],G,0⟩ (Cnv.park ⟨[],[],O.filter (fun x=> !decide ((x.b,x.c)∈A)),O.filter (fun x=>decide ((x.b,x.c)∈A))⟩ E0) ⟨[],[],0⟩ .e H nx nu0 A [] []:=by
  refine⟨hk.perm ?_,fun n s hn=>(by cases hn),rfl,rfl,fun x hx=>(by cases hx),rfl,fun y hy=>?_,hG⟩
  ·show((E0++O.filter _)++O.filter _).Perm (E0++O)
   rw[List.append_assoc]
   exact List.Perm.append_left E0 (List.perm_append_comm.trans (List.filter_append_perm _ O))
  ·rcases hA y hy with h1 | h1
   ·obtain⟨w,hm⟩:=h1.mem
    exact .inl (Has.of_mem (w:=w) (List.mem_filter.2 ⟨hm,by simpa using hy⟩))
   ·exact .inr h1
 obtain⟨ν0,M0,i1,i2,hfr⟩:=kb1 ks h0 hargs hw0 hi
 have hfr:S0.fr=[]:=hfr
 have hfix:∃ν1,ConX B ro ⟨[],ss,[],G,0⟩ ⟨vs,[],O.filter (fun x=> !decide ((x.b,x.c)∈A)),O.filter (fun x=>decide ((x.b,x.c)∈A))⟩ ⟨[],S1.mv,S1.nc⟩ .e H nx ν1 A M0 []∧jbt ν1 A ss vs:=by
  unfold ko0 at hfx
  split at hfx
  ·rename_i hsi
   cases hfx
   rw[jwf (jvr hsi)] at i2
   exact⟨ν0,⟨i1.hk,fun n s hn=>(by cases hn),i2,i1.mv,i1.wr,i1.mc,i1.fz,i1.gl⟩,i2⟩
  ·rename_i i hsi
   obtain⟨hc,hfx⟩:=jaf hfx
   simp only[Bool.and_eq_true,jad,decide_eq_true_eq] at hc
   obtain⟨⟨hfresh,hnp⟩,hall⟩:=hc
   cases hfx
   obtain⟨e1,b,e2,e3⟩:=jvq hsi hall hargs
   rw[e1] at i2
   have i1':ConX B ro ⟨[],ss0,[],G,0⟩ ⟨vs.set i .nils,[],O.filter (fun x=> !decide ((x.b,x.c)∈A)),O.filter (fun x=>decide ((x.b,x.c)∈A))⟩ S0 .e H nx ν0 A M0 []:=
    ⟨i1.hk,fun n s hn=>(by rw[hfr] at hn;cases hn),i2,i1.mv,i1.wr,i1.mc,i1.fz,i1.gl⟩
   have h':=i1'.name hfresh (b,.nils)
   have hov:=h'.ov
   simp only at hov
   have hself:SVR (ν0.upd S0.nc (b,.nils)) A (.cptr S0.nc f (i-np) (ss0.drop np)) (.ptr b 0):=by
    refine⟨by rw[ja8],vs.drop np,by rw[ja8];exact e3,?_,?_⟩
    ·rw[List.getElem?_drop,show np+ (i-np)=i by omega,e2]
    ·have:=jch np hov
     rwa[List.drop_set,if_neg (by omega)] at this
   have hss:=ju1 i hov hself
   rw[List.set_set] at hss
   have e5:vs.set i (.ptr b 0)=vs:=by
    obtain⟨hk,h5⟩:=List.getElem?_eq_some_iff.1 e2
    rw[←h5,List.set_getElem_self]
   rw[e5] at hss
   exact⟨_,⟨h'.hk,fun n s hn=>(by cases hn),hss,h'.mv,h'.wr,h'.mc,h'.fz,h'.gl⟩,hss⟩
 obtain⟨ν1,h1',h2⟩:=hfix
 obtain⟨v,H',nx',s,S2,tm',ν',F',M',R',k1,k2,k3,k4⟩:=jzg hch hr rfl h1' h2
 split at k4<;>try (cases k4;done)
 rename_i rs hrs
 split at k4<;>try (cases k4;done)
 rename_i c1 mv1 y1 hex
 split at k4<;>try (cases k4;done)
 rename_i c2 mv2 z1 hrf
 obtain⟨hc,k4⟩:=jca k4
 cases k4
 rw[jpu] at hc
 obtain⟨vs',hv',hsv⟩:=j95 hrs k3 hex
 obtain⟨E,F2,M2,R2,j1,j2,j3,j4⟩:=jr3 outs k2 hex hc.1 hsv
 obtain⟨Er,F3,M3,R3,g1,g2,g3,g4⟩:=kay ks (S:={ S2 with mv:=mv1 }) j1 hrf hc.2 (jbb j3 _ _ k2.ov)
 refine⟨v,E,Er,M3++R3,H',nx',F3,by rw[hcall];exact k1,g1.hk.perm ?_,fun x hx=>?_,fun z hz=>?_,⟨vs',hv',jk4 g3 j4⟩,g4⟩
 ·simp only[Cnv.Mc,Cnv.O0,Cnv.park,List.flatten_nil,List.nil_append,List.append_assoc]
  have p1:O.Perm (O.filter (fun x=> !decide ((x.b,x.c)∈A))++O.filter (fun x=>decide ((x.b,x.c)∈A))):=(List.perm_append_comm.trans (List.filter_append_perm _ O)).symm
  refine(List.Perm.append_left E (List.Perm.append_left Er (List.Perm.append_left M3 (List.Perm.append_left R3 p1)))).trans ?_
  generalize (O.filter (fun x=> !decide ((x.b,x.c)∈A))++O.filter (fun x=>decide ((x.b,x.c)∈A)))=Q
  have p2:(E++(Er++(M3++(R3++Q)))).Perm (Er++(E++(M3++(R3++Q)))):=jd0 E Er _
  have p3:(E++(M3++(R3++Q))).Perm (M3++(R3++(E++Q))):=(jd0 E M3 _).trans (List.Perm.append_left M3 (jd0 E R3 _))
  have p4:(Er++(M3++(R3++(E++Q)))).Perm (M3++(R3++(Er++(E++Q)))):=(jd0 Er M3 _).trans (List.Perm.append_left M3 (jd0 Er R3 _))
  exact p2.trans ((List.Perm.append_left Er p3).trans p4)
 ·rcases List.mem_append.1 hx with hx | hx
  ·exact j2 x hx
  ·exact g2 x hx
 ·rcases g1.fz z hz with h3 | h3
  ·obtain⟨w,hm⟩:=h3.mem
   rcases List.mem_append.1 hm with h4 | h4
   ·exact .inl (Has.of_mem (w:=w) (List.mem_append.2 (.inr h4)))
   ·exact .inr (.inl (by simpa using (List.mem_filter.1 h4).2))
  ·exact .inr (.inr h3)
variable {memo:jqk} {prog:Tr CFn}
def kf8 (N:Nat) (T:List TE) (T2:List TR) (C:List (FuncId×Fx)):Nat→CH
 | 0=>kne T2 (kjc T noC)
 | d+1=>kne T2 (kjc T (knm N (kca C) (kf8 N T T2 C d)))
def j8h (B:Base) (memo:jqk) (prog:Tr CFn) (m:Nat) (T:List TR):Prop:=∀t∈T,∀n,m≤n→t.OK B (jsn B memo prog n)
theorem j5n {T:List TE} {T2:List TR} {C:List (FuncId×Fx)} {m:Nat} (hT:OKs B memo prog m T) (hT2:j8h B memo prog m T2) (hC:jn4 memo prog C):∀d n,m+d≤n→HOK B (jsn B memo prog n) (kf8 fuel T T2 C d)
 | 0,n,h=>kaf (fun t ht=>hT2 t ht n (by omega)) (jze (fun t ht=>hT t ht n (by omega)) kf0)
 | d+1,n+1,h=>kaf (fun t ht=>hT2 t ht _ (by omega)) (jze (fun t ht=>hT t ht _ (by omega)) (kb0 (j5n hT hT2 hC d n (by omega)) fun f x hx vs H nx ro=>by
    obtain⟨h1,h2⟩:=hC _ (j0p hx)
    simp only[jsn,h1 vs,h2]))
theorem kmm {T:List TE} {T2:List TR} {C:List (FuncId×Fx)} {m d:Nat} (hT:OKs B memo prog m T) (hT2:j8h B memo prog m T2) (hC:jn4 memo prog C) {G:Mem} (hG:GRel B nu0 G) {f:FuncId} {x:Fx} (hx:(∀vs,memo f vs=none)∧prog.get f=some x.cfn) {ins outs:List Rep}
  {run:jj5 ins→Option (jj5 outs)} (hr:∀a,jet fuel (kf8 fuel T T2 C d) G x ins outs a=run a):OKs B memo prog (m+d+1) [⟨f,ins,outs,run⟩]:=by
 intro t ht n hn
 rw[List.mem_singleton.1 ht]
 match n,hn with
 | n+1,hn=>
   have h1:=kar (j5n hT hT2 hC d n (by omega)) hG (x:=x) (ins:=ins) (outs:=outs) (f:=f) (call':=jsn B memo prog (n+1)) (fun vs H nx ro=>by simp only[jsn,hx.1 vs,hx.2])
   have e:run=jet fuel (kf8 fuel T T2 C d) G x ins outs:=funext fun a=>(hr a).symm
   rw[e];exact h1
theorem kmn {T:List TE} {T2:List TR} {C:List (FuncId×Fx)} {m d:Nat} (hT:OKs B memo prog m T) (hT2:j8h B memo prog m T2) (hC:jn4 memo prog C) {G:Mem} (hG:GRel B nu0 G) {f np:Nat} {x:Fx} (hx:(∀vs,memo f vs=none)∧prog.get f=some x.cfn) {ks:List Ak} {outs:List Rep}
  {run:kdl ks→Option (jj5 outs×kdk ks)} (hr:∀a,kj1 fuel (kf8 fuel T T2 C d) G x f np ks outs a=run a):j8h B memo prog (m+d+1) [⟨f,np,ks,outs,run⟩]:=by
 intro t ht n hn
 rw[List.mem_singleton.1 ht]
 match n,hn with
 | n+1,hn=>
   have h1:=kg3 (j5n hT hT2 hC d n (by omega)) hG (x:=x) (f:=f) (np:=np) (ks:=ks) (outs:=outs) (call':=jsn B memo prog (n+1)) (fun vs H nx ro=>by simp only[jsn,hx.1 vs,hx.2])
   have e:run=kj1 fuel (kf8 fuel T T2 C d) G x f np ks outs:=funext fun a=>(hr a).symm
   rw[e];exact h1
theorem j8g {m:Nat}:j8h B memo prog m []:=fun t ht=>by cases ht
theorem jw8 {m:Nat} {t:TR} {T:List TR} (h:j8h B memo prog m [t]) (h':j8h B memo prog m T):j8h B memo prog m (t::T):=fun u hu n hn=>by
 rcases List.mem_cons.1 hu with rfl | hu
 ·exact h _ (List.mem_singleton.2 rfl) n hn
 ·exact h' u hu n hn
theorem j59 {m m':Nat} {T:List TR} (h:j8h B memo prog m T) (hm:m≤m'):j8h B memo prog m' T:=fun t ht n hn=>h t ht n (by omega)
end X
end Go.Vm
namespace Go.Vm
namespace X
open W
variable {B:Base} {memo:jqk} {prog:Tr CFn} {ro:Nat} {O:List Ent} {H:Tr Blk} {nx:Nat} {F:jal}
def kd0 (L:List (List Int)):Option (List (List Int)):=bif L.length.ble 1000000&&L.all (fun l=>(1:Nat).ble l.length&&l.length.ble 1000000) then some (jpk L) else none
theorem kmk:∀ {O:List Ent} {b:Nat} {c:HB},Has O b c→b∈O.map Ent.b
 | _,_,_,.here=>by simp
 | _,_,_,.there h=>by simpa using .inr (by simpa using kmk h)
theorem kib {A:jal} (hk:HK B ro O H nx) (hA:∀x∈A,Has O x.1 x.2∨ji3 B x) {b:Nat} (hnb:b∉O.map Ent.b) (hb0:B.nx0≤b) {L:List Int} {a:AV} (h:jb5 A (.slx (.int .i64)) L [a]) (h1:0<L.length) (h2:L.length≤1000000):kns H b a L:=by
 obtain⟨v,e,h⟩:=h
 cases e
 have h':=kc1 hk hA (f:=AV.int .i64) (P:=jb5 A (.int .i64)) (fun x l h=>h) h.sl
 rcases h with⟨rfl,_⟩ | ⟨vb,vo,l,rfl,hf,hl,hr⟩
 ·simp at h1
 ·rcases h' with⟨_,h'⟩ | ⟨b',o',cap',c,m,e,g1,g2,g3⟩
  ·cases h'
  ·cases e
   refine⟨vb,vo,L.length,some L.length,rfl,h1,h2,fun e=>?_,?_⟩
   ·subst e
    rcases hA _ hf with h | h
    ·exact hnb (kmk h)
    ·have:=h.1
     simp only at this
     omega
   ·unfold j81
    rw[g1]
    simp only
    rw[jad,decide_eq_true g2,cond_true]
    exact jkg g3
theorem kc7 {α:Type} {P:α→List AV→Prop} (hP:∀x l,P x l→l.length=1):∀ {xs:List α} {l:List AV},jc6 P xs l→l.length=xs.length∧∀(i:Nat) (x:α) (a:AV),xs[i]?=some x→l[i]?=some a→P x [a]
 | [],l,h=>by simp only[jc6] at h;subst h;exact⟨rfl,fun i x a h=>by simp at h⟩
 | x::xs,l,⟨l1,l2,e,h1,h2⟩=>by
   obtain⟨q1,q2⟩:=kc7 hP h2
   have:=hP _ _ h1
   match l1,this with
   | [a],_=>
     subst e
     refine⟨by simp[q1],fun i y b e1 e2=>?_⟩
     cases i with
     | zero=>simp at e1 e2;subst e1;subst e2;exact h1
     | succ i=>exact q2 i y b (by simpa using e1) (by simpa using e2)
theorem j4a {α:Type} {P:α→List AV→Prop} {d:α} (hd:P d [.nils]) {xs:List α} {l:List AV} (h1:l.length=xs.length) (h2:∀(i:Nat) (x:α) (a:AV),xs[i]?=some x→l[i]?=some a→P x [a]):∀(o:List Nat),jc6 P (pick d xs o) (pick .nils l o)
 | []=>rfl
 | i::o=>by
   refine⟨[l.getD i .nils],pick .nils l o,rfl,?_,j4a hd h1 h2 o⟩
   show P (xs.getD i d) [l.getD i .nils]
   rw[List.getD_eq_getElem?_getD,List.getD_eq_getElem?_getD]
   by_cases hi:i<xs.length
   ·rw[List.getElem?_eq_getElem hi,List.getElem?_eq_getElem (by omega)]
    exact h2 i _ _ (List.getElem?_eq_getElem hi) (List.getElem?_eq_getElem (by omega))
   ·rw[List.getElem?_eq_none (by omega),List.getElem?_eq_none (by omega)]
    exact hd
theorem jii {c:Tr AV}:∀ {l:List AV} {i:Nat},(∀j,j<l.length→c.get (i+j)=l[j]?)→take c i l.length=some l
 | [],i,h=>rfl
 | a::l,i,h=>by
   have h0:=h 0 (by simp)
   rw[Nat.add_zero] at h0
   have:=jii (c:=c) (l:=l) (i:=i+1) fun j hj=>by
    have:=h (j+1) (by simpa using hj)
    rw[show i+1+j=i+ (j+1) by omega]
    simpa using this
   simp only[List.length_cons,take]
   rw[h0]
   simp only[List.getElem?_cons_zero,this]
theorem kdr {ord:List (List Int)→List Nat} (hord:∀L,pick [] L (ord L)=jpk L) {f fc:FuncId} (hm:∀as g,j1x ord f fc f as=some g→memo f as=some g):
  j8h B memo prog 1 [⟨f,2,[.row (.slx (.int .i64)),.v (.fn fc)],[],fun a=>(kd0 a.1).map fun l=>((),(l,((),())))⟩]:=by
 intro t ht n hn
 rw[List.mem_singleton.1 ht]
 match n,hn with
 | n+1,_=>
 intro a r y hr ro O E0 H nx hk hw A hA vs hv
 obtain⟨L,u,w0⟩:=a
 simp only[Option.map_eq_some_iff] at hr
 obtain⟨M,hM,hr⟩:=hr
 cases hr
 unfold kd0 at hM
 obtain⟨hc,hM⟩:=jaf hM
 cases hM
 simp only[Bool.and_eq_true,jad,decide_eq_true_eq,List.all_eq_true] at hc
 obtain⟨v1,vs1,E1,E2,rfl,rfl,h1,v2,vs2,E3,E4,rfl,rfl,h2,rfl,rfl⟩:=hv
 obtain⟨rfl,rfl⟩:v2=.fn (.func fc) [] []∧E3=[]:=by
  obtain⟨h2,h3⟩:=h2
  cases h2
  exact⟨rfl,h3⟩
 have hpl:(ord L).length=L.length:=by
  have:=congrArg List.length (hord L)
  rw[jrf,(jkc L).length_eq] at this
  exact this
 have hcall:∀g,memo f [v1,.fn (.func fc) [] []]=some g→jsn B memo prog (n+1) f [v1,.fn (.func fc) [] []] H nx ro=g H nx ro:=fun g hg=>by
  simp only[jsn,hg]
  rw[if_pos hk.base]
 have hmm0:j1x ord f fc f [.nils,.fn (.func fc) [] []]=some (fun H nx _=>some (.tup [],H,nx)):=by
  unfold j1x
  rw[jac,decide_eq_true rfl,cond_true]
  show(bif Nat.beq fc fc then _ else _)=_
  rw[jac,decide_eq_true rfl,cond_true]
 have hmm1:∀b o n cap,j1x ord f fc f [.sl b o n cap 1,.fn (.func fc) [] []]=some (fun H nx ro=>match n with
   | 0=>some (.tup [],H,nx)
   | n+1=>j8s ord ro H nx b o (n+1)):=fun b o n cap=>by
  unfold j1x
  rw[jac,decide_eq_true rfl,cond_true]
  show(bif Nat.beq fc fc then _ else _)=_
  rw[jac,decide_eq_true rfl,cond_true]
  rfl
 obtain⟨x,rfl,hz,hB⟩:=h1
 simp only[List.nil_append] at hk hw
 have done0:L=[]→memo f [x.2,.fn (.func fc) [] []]=some (fun H nx _=>some (.tup [],H,nx))∨(∃g,memo f [x.2,.fn (.func fc) [] []]=some g∧g H nx ro=some (.tup [],H,nx))→∃v E Er N H' nx' F',jsn B memo prog (n+1) f [x.2,.fn (.func fc) [] []] H nx ro=some (v,H',nx')∧HK B ro (E++(Er++(N++O))) H' nx'∧(∀x∈E++Er,x.w=true)∧(∀x∈F',Has N x.1 x.2∨x∈A∨ji3 B x)∧kgg F' [] () v E∧j57 F' [.row (.slx (.int .i64)),.v (.fn fc)] (jpk L,((),())) [x.2,.fn (.func fc) [] []] Er:=by
  intro hL hmm
  subst hL
  have hg:∃g,memo f [x.2,.fn (.func fc) [] []]=some g∧g H nx ro=some (.tup [],H,nx):=by
   rcases hmm with h | h
   ·exact⟨_,h,rfl⟩
   ·exact h
  obtain⟨g,hg,hg2⟩:=hg
  refine⟨.tup [],[],E1,[],H,nx,A,by rw[hcall g hg,hg2],hk,hw,fun x hx=>.inr (.inl hx),⟨[],rfl,rfl,rfl⟩,x.2,[.fn (.func fc) [] []],E1,[],rfl,rfl,⟨x,rfl,hz,hB⟩,_,[],[],[],rfl,rfl,rfl,rfl,rfl⟩
 rcases hB with⟨hd,rfl⟩ | ⟨w,m,rfl,hd,hrel,hone⟩
 ·rcases hd with⟨e1,_,e2,_⟩ | ⟨_,_,_,e,_⟩
  ·have hL:L=[]:=List.length_eq_zero_iff.1 e2
   refine done0 hL (.inl (hm _ _ ?_))
   rw[e1]
   exact hmm0
  ·cases e
 ·rcases hd with⟨_,e,_⟩ | ⟨cap,k,e1,e2,e3,e4,_⟩
  ·cases e
  ·cases e2
   by_cases hL:L=[]
   ·refine done0 hL (.inr ⟨_,hm _ _ (by rw[e1];exact hmm1 _ _ _ _),by subst hL;rfl⟩)
   ·have hw1:w=true:=hw _ (List.mem_singleton.2 rfl)
    subst hw1
    have hent:=hk.ent ⟨x.1,true,.cells m⟩ (by simp)
    have hrx:=hent.2.1 rfl
    simp only at hrx
    obtain⟨c,g1,g2⟩:=hent.2.2
    simp only at g1 g2
    have jbg:L.length≤m.length:=by
     have e3:L.length*1≤m.length:=e3
     omega
    have e5:(m.take (L.length* (Ty.slx (.int .i64)).size))=m.take L.length:=by
     rw[show(Ty.slx (.int .i64)).size=1 from rfl,Nat.mul_one]
    rw[e5] at hrel
    have hnb:x.1∉O.map Ent.b:=by
     have:=hk.nd
     simp only[List.cons_append,List.nil_append,List.map_cons,List.nodup_cons] at this
     exact this.1
    have hb0:B.nx0≤x.1:=Nat.le_trans hk.r0 (jf4 hrx).1
    have hkO:HK B ro O H nx:=hk.sub (by simp)
    obtain⟨q1,q2⟩:=kc7 (fun y l h=>jam _ _ _ h) hrel
    have htk:take c 0 (m.take L.length).length=some (m.take L.length):=jii fun j hj=>by
     rw[List.length_take] at hj
     rw[Nat.zero_add,g2 j (by omega),List.getElem?_take,if_pos (by omega)]
    rw[q1] at htk
    have hrd:j40 H x.1 (m.take L.length)=some L:=j6y q1.symm fun i a V h1 h2=>by
     have hV:=hc.2 V (List.mem_of_getElem? h2)
     exact kib hkO hA hnb hb0 (q2 i V a h2 h1) hV.1 hV.2
    have hn0:0<L.length:=by
     cases L with
     | nil=>exact absurd rfl hL
     | cons a l=>simp
    have hsort:j8s ord ro H nx x.1 0 L.length=some (.tup [],H.set x.1 (.cells (put (pick .nils (m.take L.length) (ord L)) 0 c) m.length),nx):=by
     unfold j8s
     simp only[g1,htk,hrd]
     rw[show((rx ro).ble x.1&&(1:Nat).ble L.length&&L.length.ble 1000000)=true by simp only[Bool.and_eq_true,jad,decide_eq_true_eq];exact⟨⟨hrx,hn0⟩,hc.1⟩]
     rw[cond_true,show(0+L.length).ble m.length=true by simp only[jad,decide_eq_true_eq];omega,cond_true]
    have hml:(pick .nils (m.take L.length) (ord L)).length=L.length:=by rw[jrf,hpl]
    have hk':=hk.upd (c':=.cells (pick .nils (m.take L.length) (ord L)++m.drop L.length)) .here (.cells (put (pick .nils (m.take L.length) (ord L)) 0 c) m.length) ⟨put (pick .nils (m.take L.length) (ord L)) 0 c,by rw[Tr.get_set,if_pos rfl,List.length_append,hml,List.length_drop];congr 2;omega,fun i hi=>by
     rw[jfe,hml,List.getElem?_append,hml,Nat.zero_add,Nat.sub_zero]
     by_cases hc:i<L.length
     ·rw[if_pos ⟨Nat.zero_le _,hc⟩,if_pos hc]
     ·rw[if_neg (fun h=>hc h.2),if_neg hc,List.getElem?_drop,show L.length+ (i-L.length)=i by omega]
      rw[List.length_append,hml,List.length_drop] at hi
      exact g2 i (by omega)⟩
    have hls:(jpk L).length=L.length:=(jkc L).length_eq
    refine⟨.tup [],[],_,[],_,nx,A,?_,hk',fun y hy=>by rw[List.mem_singleton.1 hy],fun x hx=>.inr (.inl hx),⟨[],rfl,rfl,rfl⟩,x.2,[.fn (.func fc) [] []],_,[],rfl,rfl,⟨x,rfl,hz,.inr ⟨true,_,rfl,.inr ⟨cap,_,?_,rfl,?_,fun k hk=>?_,fun k hk=>by cases hk⟩,?_,?_⟩⟩,_,[],[],[],rfl,rfl,rfl,rfl,rfl⟩
    ·obtain⟨k,hk2⟩:∃k,L.length=k+1:=⟨L.length-1,by omega⟩
     have:=hm [x.2,.fn (.func fc) [] []] _ (by rw[e1];exact hmm1 _ _ _ _)
     rw[hcall _ this]
     show(match List.length (α:=List Int) L with
      | 0=>_
      | k+1=>j8s ord ro H nx x.1 0 (k+1))=_
     rw[hk2] at hsort ⊢
     exact hsort
    ·show x.2=.sl x.1 0 (jpk L).length cap _
     rw[hls];exact e1
    ·show(jpk L).length*_≤_
     rw[hls,List.length_append,hml,List.length_drop]
     rw[show(Ty.slx (.int .i64)).size=1 from rfl]
     omega
    ·have:=e4 k hk
     rw[show(Ty.slx (.int .i64)).size=1 from rfl] at this ⊢
     rw[List.length_append,hml,List.length_drop]
     refine⟨by omega,?_⟩
     show(jpk L).length≤k
     rw[hls]
     exact this.2
    ·show jc6 _ (jpk L) (List.take ((jpk L).length*_) _)
     rw[hls,show(Ty.slx (.int .i64)).size=1 from rfl,Nat.mul_one,List.take_append_of_le_length (by omega),List.take_of_length_le (by omega),←hord L]
     exact j4a (d:=([]:List Int)) ⟨_,rfl,.inl ⟨rfl,rfl⟩⟩ q1 q2 (ord L)
    ·rw[List.all_append,Bool.and_eq_true]
     refine⟨List.all_eq_true.2 fun a ha=>?_,List.all_eq_true.2 fun a ha=>List.all_eq_true.1 hone a (List.mem_of_mem_drop ha)⟩
     obtain⟨i,_,rfl⟩:=List.mem_map.1 ha
     rw[List.getD_eq_getElem?_getD]
     cases hi:(m.take L.length)[i]? with
     | none=>rfl
     | some b=>exact List.all_eq_true.1 hone b (List.mem_of_mem_take (List.mem_of_getElem? hi))
end X
end Go.Vm
