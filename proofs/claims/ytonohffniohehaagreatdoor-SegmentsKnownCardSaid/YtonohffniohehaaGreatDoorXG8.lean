/-
  Functions that change what their arguments lead to: captured variables, rows.
  A told function that sorts a row of one's own.
  A told function that sorts a row of data, each of several cells.
  slices.SortFunc on rows of data, each of several cells: what it leaves, out of the shelf's contract.
  Segments: the orders of segments and of creases.
-/
import Derived.Test.YtonohffniohehaaGreatDoorXG7
import Derived.Shelf.SlSortCmp.WholeK
set_option linter.unusedSimpArgs false
set_option linter.unusedVariables false
set_option linter.unusedSectionVars false
set_option linter.unnecessarySimpa false
namespace Go.Vm
namespace X
open W
variable {B:Base} {call:FuncId→List AV→Tr Blk→Nat→Nat→Out} {ro:Nat} {e:Env} {c:Cnv} {S:St} {tm:Tr AV} {H:Tr Blk} {nx:Nat} {ν:Nm} {F:jaj} {M R:List Ent}
inductive Ak where
 | v (r:Rep)
 | pd (t:Ty)
 | cell (r:Rep)
 | row (t:Ty)
 | self
@[reducible] def Ak.den:Ak→Type
  | .v r=>r.den
  | .pd t=>t.den
  | .cell r=>r.den
  | .row t=>List t.den×Option Nat
  | .self=>Unit
@[reducible] def Ak.rden:Ak→Type
  | .cell r=>r.den
  | .row t=>List t.den×Option Nat
  | _=>Unit
@[reducible] def kox:List Ak→Type
  | []=>Unit
  | k::l=>k.den×kox l
@[reducible] def kj3:List Ak→Type
  | []=>Unit
  | k::l=>k.rden×kj3 l
def kpl (F:jaj) (f:FuncId) (caps:List AV):(k:Ak)→k.den→AV→List Ent→Prop
 | .v r,x,a,E=>js4 F r x a E
 | .pd t,x,a,E=>(∃b l,a=.ptr b 0∧(b,HB.cells l)∈F∧t.ok=true∧t.size≤l.length∧jb0 F t x (l.take t.size))∧E=[]
 | .cell r,x,a,E=>∃b m E',a=.ptr b 0∧E=E'++[⟨b,true,.cells m⟩]∧j84 F r x m E'
 | .row t,x,a,E=>j9d F t x.1 x.2 a E
 | .self,_,a,E=>(∃b,a=.ptr b 0∧(b,HB.cells [.fn (.func f) [] caps])∈F)∧E=[]
def kjm (F:jaj) (f:FuncId) (caps:List AV):(ks:List Ak)→kox ks→List AV→List Ent→Prop
 | [],_,vs,E=>vs=[]∧E=[]
 | k::ks,x,vs,E=>∃a vs' E1 E2,vs=a::vs'∧E=E2++E1∧kpl F f caps k x.1 a E1∧kjm F f caps ks x.2 vs' E2
def kpj (F:jaj):(k:Ak)→k.rden→AV→List Ent→Prop
 | .cell r,y,a,E=>∃b m E',a=.ptr b 0∧E=E'++[⟨b,true,.cells m⟩]∧j84 F r y m E'
 | .row t,y,a,E=>j9d F t y.1 y.2 a E
 | .v _,_,_,E | .pd _,_,_,E | .self,_,_,E=>E=[]
def j85 (F:jaj):(ks:List Ak)→kj3 ks→List AV→List Ent→Prop
 | [],_,vs,E=>vs=[]∧E=[]
 | k::ks,y,vs,E=>∃a vs' E1 E2,vs=a::vs'∧E=E2++E1∧kpj F k y.1 a E1∧j85 F ks y.2 vs' E2
theorem kc5 {F F':jaj} (hF:∀x∈F,x∈F') {f:FuncId} {caps:List AV}:∀(k:Ak) {x:k.den} {a:AV} {E:List Ent},kpl F f caps k x a E→kpl F' f caps k x a E
 | .v r,x,a,E,h=>jra hF h
 | .pd t,x,a,E,⟨⟨b,l,h1,h2,h3,h4,h5⟩,h6⟩=>⟨⟨b,l,h1,hF _ h2,h3,h4,ja2 hF t _ _ h5⟩,h6⟩
 | .cell r,x,a,E,⟨b,m,E',h1,h2,h3⟩=>⟨b,m,E',h1,h2,jjg hF r _ _ _ h3⟩
 | .row t,x,a,E,⟨y,h1,h2⟩=>⟨y,h1,jgt hF h2⟩
 | .self,x,a,E,⟨⟨b,h1,h2⟩,h3⟩=>⟨⟨b,h1,hF _ h2⟩,h3⟩
theorem kcw {F F':jaj} (hF:∀x∈F,x∈F'):∀(k:Ak) {y:k.rden} {a:AV} {E:List Ent},kpj F k y a E→kpj F' k y a E
 | .v r,y,a,E,h=>h
 | .pd t,y,a,E,h=>h
 | .self,y,a,E,h=>h
 | .cell r,y,a,E,⟨b,m,E',h1,h2,h3⟩=>⟨b,m,E',h1,h2,jjg hF r _ _ _ h3⟩
 | .row t,y,a,E,⟨z,h1,h2⟩=>⟨z,h1,jgt hF h2⟩
theorem jyd {F F':jaj} (hF:∀x∈F,x∈F'):∀ {ks:List Ak} {y:kj3 ks} {vs:List AV} {E:List Ent},j85 F ks y vs E→j85 F' ks y vs E
 | [],y,vs,E,h=>h
 | k::ks,y,vs,E,⟨a,vs',E1,E2,h1,h2,h3,h4⟩=>⟨a,vs',E1,E2,h1,h2,kcw hF k h3,jyd hF h4⟩
structure TR where
 f:FuncId
 np:Nat
 ks:List Ak
 outs:List Rep
 run:kox ks→Option (jl4 outs×kj3 ks)
def TR.OK (B:Base) (call:FuncId→List AV→Tr Blk→Nat→Nat→Out) (t:TR):Prop:=
 ∀a r y,t.run a=some (r,y)→∀ro O E0 H nx,HK B ro (E0++O) H nx→(∀x∈E0,x.w=true)→∀A:jaj,(∀x∈A,Has O x.1 x.2∨jlg B x)→∀vs,kjm A t.f (vs.drop t.np) t.ks a vs E0→
  ∃v E Er N H' nx' F',call t.f vs H nx ro=some (v,H',nx')∧HK B ro (E++(Er++(N++O))) H' nx'∧(∀x∈E++Er,x.w=true)∧(∀x∈F',Has N x.1 x.2∨x∈A∨jlg B x)∧kfd F' t.outs r v E∧j85 F' t.ks y vs Er
def j99:List SV→List SV→Bool
 | [],[]=>true
 | a::l,b::m=>(match ptB a,ptB b with
   | some (x,o),some (y,p)=>x.beq y&&o.beq p
   | _,_=>false)&&j99 l m
 | _,_=>false
theorem jyo:∀ {l m:List SV} {u v:List AV},j99 l m=true→jb8 ν F l u→jb8 ν F m v→u=v
 | [],[],u,v,_,h1,h2=>by simp only[jb8] at h1 h2;rw[h1,h2]
 | a::l,b::m,u,v,h,⟨x,u',e1,h1,h2⟩,⟨y,v',e2,h3,h4⟩=>by
   simp only[j99,Bool.and_eq_true] at h
   obtain⟨h,h5⟩:=h
   subst e1;subst e2
   split at h<;>try (cases h;done)
   rename_i bx ox b2 o2 q1 q2
   simp only[Bool.and_eq_true,jaa,decide_eq_true_eq] at h
   obtain⟨rfl,rfl⟩:=h
   rw[ju0 q1 h1,ju0 q2 h3,jyo h5 h2 h4]
 | [],_::_,u,v,h,_,_=>by cases h
 | _::_,[],u,v,h,_,_=>by cases h
def jxg (f:FuncId) (caps:List SV) (nc:Nat):(k:Ak)→Mem→SV→Option (Option Bool×Mem×k.den)
 | .v r,mv,s=>koh r mv s
 | .pd t,mv,s=>match s with
   | .nptr b t' x 0=>bif t.ok then(if h:t'=t then some (none,mv,h▸x) else none) else none
   | .ptr b 0=>match lkM mv b with
     | some (.lit cs)=>jxz (.d t) (jnc mv b) cs
     | _=>none
   | _=>none
 | .cell r,mv,s=>match s with
   | .ptr b 0=>bif Nat.blt b nc then(match lkM mv b with
     | some (.lit cs)=>jxz r (jnc mv b) cs
     | _=>none) else none
   | _=>none
 | .row t,mv,s=>match s with
   | .own n=>bif Nat.blt n nc then(match jsy t mv (.own n) with
     | some (c,mv,L,cp)=>some (c,mv,(L,cp))
     | none=>none) else none
   | _=>none
 | .self,mv,s=>match s with
   | .ptr b 0=>match lkM mv b with
     | some (.lit [.fn f' [] cs])=>bif Nat.beq f' f&&j99 cs caps then some (none,jnc mv b,()) else none
     | _=>none
   | .cptr b f' k cs=>bif Nat.beq f' f&&j99 (cs.set k (.cptr b f' k cs)) caps then some (none,mv,()) else none
   | _=>none
def j9s (f:FuncId) (caps:List SV) (nc:Nat):(ks:List Ak)→Mem→List SV→Option (Option Bool×Mem×kox ks)
 | [],mv,ss=>match ss with
   | []=>some (none,mv,())
   | _=>none
 | k::ks,mv,ss=>match ss with
   | s::ss=>match jxg f caps nc k mv s with
     | some (c1,mv,x)=>match j9s f caps nc ks mv ss with
       | some (c2,mv,y)=>some (kgj c1 c2,mv,(x,y))
       | none=>none
     | none=>none
   | _=>none
def kr6 (ν:Nm) (nc:Nat) (k:Ak) (s:SV) (v:AV):Prop:=match k with
 | .cell _=>∃b,s=.ptr b 0∧v=.ptr (ν b).1 0∧b<nc
 | .row _=>∃n,s=.own n∧v=(ν n).2∧(∀k o m c z,(ν n).2=.sl k o m c z→k=(ν n).1)∧n<nc
 | _=>True
def kjd (ν:Nm) (nc:Nat):List Ak→List SV→List AV→Prop
 | [],ss,vs=>ss=[]∧vs=[]
 | k::ks,ss,vs=>∃s ss' v vs',ss=s::ss'∧vs=v::vs'∧kr6 ν nc k s v∧kjd ν nc ks ss' vs'
theorem j1q {E:List Ent} (h:ConX B ro e (c.park E) S tm H nx ν F M R):ConX B ro e c S tm H nx ν (jep E++F) M (E++R):=by
 have up:∀x∈F,x∈jep E++F:=fun x hx=>List.mem_append.2 (.inr hx)
 refine⟨h.hk.perm ?_,fun n v hv=>jfk up _ _ (h.fr n v hv),jbr up _ _ h.ov,jkt up h.mv,h.wr,jiw up h.mc,fun x hx=>?_,h.gl⟩
 ·have e1:(c.park E).O0=E++c.O0:=by simp[Cnv.O0,Cnv.park]
  rw[e1]
  show(M++(c.Mc++((E++R)++c.O0))).Perm (M++(c.Mc++(R++(E++c.O0))))
  rw[List.append_assoc]
  exact List.Perm.append_left _ (List.Perm.append_left _ (jfq R E _).symm)
 ·rw[List.append_assoc]
  rcases List.mem_append.1 hx with hx | hx
  ·exact .inl (Has.append_left (jvv x hx))
  ·exact(h.fz x hx).imp (fun h=>Has.append_right h) id
theorem jqj {c:Cnv} {E E':List Ent}:(c.park E).park E'=c.park (E'++E):=by simp[Cnv.park]
theorem kgh {b n:Nat} (h:Nat.blt b n=true):b<n:=by
 have:b+1≤n:=by simpa[Nat.blt] using h
 omega
theorem j9r {f:FuncId} {caps:List SV} {nc:Nat} {k:Ak} (h:ConX B ro e c S tm H nx ν F M R) {s:SV} {cc:Option Bool} {mv:Mem} {x:k.den} (hs:jxg f caps nc k S.mv s=some (cc,mv,x)) (hc:okc cc=true) {v:AV} (hv:SVR ν F s v) {cv:List AV} (hcv:jb8 ν F caps cv):
  ∃E F' M' R',ConX B ro e (c.park E) { S with mv:=mv } tm H nx ν F' M' R'∧(∀x∈E,x.w=true)∧(∀x∈F,x∈F')∧kpl F' f cv k x v E∧kr6 ν nc k s v:=by
 cases k with
 | v r=>
   obtain⟨E,F',M',R',k1,k2,k3,k4⟩:=j5a h hs hc hv
   exact⟨E,F',M',R',k1,k2,k3,k4,trivial⟩
 | pd t=>
   simp only[jxg] at hs
   split at hs<;>try (cases hs;done)
   ·rename_i b t' x'
    obtain⟨ht,hs⟩:=jah hs
    split at hs<;>try (cases hs;done)
    rename_i e1
    subst e1
    cases hs
    obtain⟨rfl,l,h1,h2,h3⟩:=hv
    exact⟨[],F,M,R,h,fun _ h=>(by cases h),fun _ h=>h,⟨⟨_,l,rfl,h1,ht,h2,h3⟩,rfl⟩,trivial⟩
   ·rename_i b
    split at hs<;>try (cases hs;done)
    rename_i cs hb
    simp only[SVR] at hv
    subst hv
    obtain⟨E1,M1,⟨w,m,rfl,hm⟩,hw,hC⟩:=h.park hb
    obtain⟨E2,F',M',R',k1,k2,k3,k4⟩:=jph (.d t) (S:={ S with mv:=jnc S.mv b }) hC hs hc hm
    obtain⟨ht,k4,rfl⟩:=k4
    rw[kd4] at k1
    have hpf:=j1q k1
    have hlen:=jak t _ _ k4
    refine⟨[],_,_,_,hpf,fun _ h=>(by cases h),fun y hy=>List.mem_append.2 (.inr (k3 y hy)),⟨⟨_,m,rfl,?_,ht,Nat.le_of_eq hlen.symm,?_⟩,rfl⟩,trivial⟩
    ·exact List.mem_append.2 (.inl (List.mem_singleton.2 rfl))
    ·rw[←hlen,List.take_length]
     exact ja2 (fun y hy=>List.mem_append.2 (.inr hy)) t _ _ k4
 | cell r=>
   simp only[jxg] at hs
   split at hs<;>try (cases hs;done)
   rename_i b
   obtain⟨hb0,hs⟩:=jah hs
   split at hs<;>try (cases hs;done)
   rename_i cs hb
   simp only[SVR] at hv
   subst hv
   obtain⟨E1,M1,⟨w,m,rfl,hm⟩,hw,hC⟩:=h.park hb
   have ew:=hw _ (List.mem_singleton.2 rfl)
   simp only at ew
   subst ew
   obtain⟨E2,F',M',R',k1,k2,k3,k4⟩:=jph r (S:={ S with mv:=jnc S.mv b }) hC hs hc hm
   rw[jqj] at k1
   refine⟨_,F',M',R',k1,fun y hy=>?_,k3,⟨_,m,E2,rfl,rfl,k4⟩,_,rfl,rfl,kgh hb0⟩
   rcases List.mem_append.1 hy with hy | hy
   ·exact k2 y hy
   ·exact hw y hy
 | row t=>
   simp only[jxg] at hs
   split at hs<;>try (cases hs;done)
   rename_i n
   obtain⟨hb0,hs⟩:=jah hs
   split at hs<;>try (cases hs;done)
   rename_i c1 mv1 L cap hx
   cases hs
   obtain⟨E,M',k1,k2,k3⟩:=jnb h hx hc hv
   refine⟨E,F,M',R,k1,k2,fun _ h=>h,k3 cap (fun m hm=>hm),n,rfl,hv.1,?_,kgh hb0⟩
   simp only[jsy] at hx
   split at hx<;>try (cases hx;done)
   rename_i t' L' cap' hl
   obtain⟨E0,⟨_,hE0⟩,_⟩:=h.own hl
   have hd:∃sz,HdR (ν n) t'.size L'.length cap' sz:=by
    rcases hE0 with⟨hd,_⟩ | ⟨_,_,_,hd,_⟩
    ·exact⟨_,hd⟩
    ·exact⟨_,hd⟩
   obtain⟨sz,hd⟩:=hd
   intro k o n c z hk
   rcases hd with⟨e1,_⟩ | ⟨_,_,e1,_⟩
   ·rw[e1] at hk;cases hk
   ·rw[e1] at hk;cases hk;rfl
 | self=>
   simp only[jxg] at hs
   split at hs<;>try (cases hs;done)
   ·rename_i b
    split at hs<;>try (cases hs;done)
    rename_i f' cs hb
    obtain⟨hq,hs2⟩:=jah hs
    clear hs
    simp only[Bool.and_eq_true,jaa,decide_eq_true_eq] at hq
    obtain⟨rfl,hq⟩:=hq
    cases hs2
    simp only[SVR] at hv
    subst hv
    obtain⟨E1,M1,⟨w,m,rfl,hm⟩,hw,hC⟩:=h.park hb
    obtain⟨u,_,rfl,⟨a',c',rfl,h1,h2⟩,rfl⟩:=hm
    simp only[jb8] at h1
    subst h1
    have:=jyo hq h2 hcv
    subst this
    exact⟨[],_,_,_,j1q hC,fun _ h=>(by cases h),fun y hy=>List.mem_append.2 (.inr hy),⟨⟨_,rfl,List.mem_append.2 (.inl (List.mem_singleton.2 rfl))⟩,rfl⟩,trivial⟩
   ·rename_i b f' k cs
    obtain⟨hq,hs2⟩:=jah hs
    clear hs
    simp only[Bool.and_eq_true,jaa,decide_eq_true_eq] at hq
    obtain⟨rfl,hq⟩:=hq
    cases hs2
    have hv0:=hv
    obtain⟨rfl,c',h1,h2,h3⟩:=hv
    have h4:=j0u k h3 hv0
    rw[List.set_set] at h4
    have h5:c'.set k (.ptr (ν b).1 0)=c':=by
     obtain⟨hk,h5⟩:=List.getElem?_eq_some_iff.1 h2
     rw[←h5,List.set_getElem_self]
    rw[h5] at h4
    have:=jyo hq h4 hcv
    subst this
    exact⟨[],F,M,R,h,fun _ h=>(by cases h),fun _ h=>h,⟨⟨_,rfl,h1⟩,rfl⟩,trivial⟩
theorem j53 {f:FuncId} {caps:List SV} {nc:Nat}:∀(ks:List Ak) {c:Cnv} {S:St} {F:jaj} {M R:List Ent} (h:ConX B ro e c S tm H nx ν F M R) {ss:List SV} {cc:Option Bool} {mv:Mem} {x:kox ks} (hs:j9s f caps nc ks S.mv ss=some (cc,mv,x)) (hc:okc cc=true) {vs:List AV} (hv:jb8 ν F ss vs) {cv:List AV} (hcv:jb8 ν F caps cv),
  ∃E F' M' R',ConX B ro e (c.park E) { S with mv:=mv } tm H nx ν F' M' R'∧(∀x∈E,x.w=true)∧(∀x∈F,x∈F')∧kjm F' f cv ks x vs E∧kjd ν nc ks ss vs
 | [],c,S,F,M,R,h,ss,cc,mv,x,hs,hc,vs,hv,cv,hcv=>by
   simp only[j9s] at hs
   split at hs<;>cases hs
   exact⟨[],F,M,R,h,fun _ h=>(by cases h),fun _ h=>h,⟨hv,rfl⟩,rfl,hv⟩
 | k::ks,c,S,F,M,R,h,ss,cc,mv,x,hs,hc,vs,hv,cv,hcv=>by
   simp only[j9s] at hs
   split at hs<;>try (cases hs;done)
   rename_i s ss
   split at hs<;>try (cases hs;done)
   rename_i c1 mv1 x1 h1
   split at hs<;>try (cases hs;done)
   rename_i c2 mv2 x2 h2
   cases hs
   rw[ju8] at hc
   obtain⟨v,vs',rfl,v1,v2⟩:=hv
   obtain⟨E1,F1,M1,R1,k1,k2,k3,k4,k5⟩:=j9r h h1 hc.1 v1 hcv
   obtain⟨E2,F2,M2,R2,j1,j2,j3,j4,j5⟩:=j53 ks (S:={ S with mv:=mv1 }) k1 h2 hc.2 (jbr k3 _ _ v2) (jbr k3 _ _ hcv)
   rw[jqj] at j1
   refine⟨E2++E1,F2,M2,R2,j1,fun y hy=>?_,fun y hy=>j3 y (k3 y hy),⟨v,vs',E1,E2,rfl,rfl,kc5 j3 k k4,j4⟩,s,ss,v,vs',rfl,rfl,k5,j5⟩
   rcases List.mem_append.1 hy with hy | hy
   ·exact j2 y hy
   ·exact k2 y hy
def khi:(k:Ak)→k.rden→SV→Env→St→Option St
 | .cell r,y,s,e,S=>match s with
   | .ptr b 0=>match kf6 r y e S with
     | some (l,S1)=>some { S1 with mv:=(b,.lit l)::S1.mv }
     | none=>none
   | _=>none
 | .row t,y,s,e,S=>match s with
   | .own n=>some { S with mv:=(n,.arr t y.1 y.2)::S.mv }
   | _=>none
 | .v _,_,_,_,S | .pd _,_,_,_,S | .self,_,_,_,S=>some S
def kkv:(ks:List Ak)→kj3 ks→List SV→Env→St→Option St
 | [],_,ss,e,S=>match ss with
   | []=>some S
   | _=>none
 | k::ks,y,ss,e,S=>match ss with
   | s::ss=>match khi k y.1 s e S with
     | some S1=>kkv ks y.2 ss e S1
     | none=>none
   | _=>none
theorem kdy {k:Ak} {E:List Ent} (h:ConX B ro e (c.park E) S tm H nx ν F M R) {y:k.rden} {v:AV} (hr:kpj F k y v E) (hw:∀x∈E,x.w=true) {s:SV} {ν0:Nm} {nc:Nat} (hp:kr6 ν0 nc k s v) (hn:∀b,b<nc→ν b=ν0 b) (hnc:nc≤S.nc) {S':St} (hs:khi k y s e S=some S'):
  ∃ν' M',ConX B ro e c S' tm H nx ν' F M' R∧(∀b,b<S.nc→ν' b=ν b)∧S.nc≤S'.nc:=by
 cases k with
 | v r=>cases hs;cases hr;exact⟨ν,M,h,fun _ _=>rfl,Nat.le_refl _⟩
 | pd r=>cases hs;cases hr;exact⟨ν,M,h,fun _ _=>rfl,Nat.le_refl _⟩
 | self=>cases hs;cases hr;exact⟨ν,M,h,fun _ _=>rfl,Nat.le_refl _⟩
 | cell r=>
   obtain⟨b,rfl,e1,hb⟩:=hp
   simp only[khi] at hs
   split at hs<;>cases hs
   rename_i l S1 hi
   obtain⟨b',m,E',e2,rfl,hr⟩:=hr
   rw[e1] at e2
   have e2:(ν0 b).1=b':=by simpa using e2
   rw[←jqj] at h
   obtain⟨ν',M',k1,k2,k3,k4,k5⟩:=jvp r h hr (fun x hx=>hw x (by simp[hx])) hi
   have eb:(ν' b).1=b':=by rw[k3 b (by omega),hn b hb,e2]
   exact⟨ν',_,j05 k1 (b:=b) (sb:=.lit l) ⟨true,m,by rw[eb],k2⟩ (fun x hx=>hw x (by simp at hx;simp[hx])),k3,k5⟩
 | row t=>
   obtain⟨n,rfl,e1,e2,hb⟩:=hp
   cases hs
   obtain⟨x,hx,h0,h1⟩:=hr
   have e3:(ν n).2=x.2:=by rw[hn n hb,←e1,hx]
   have e4:∀k o m c z,(ν n).2=.sl k o m c z→k=(ν n).1:=by rw[hn n hb];exact e2
   refine⟨ν,_,j05 h (b:=n) (sb:=.arr t y.1 y.2) ⟨h0,?_⟩ hw,fun _ _=>rfl,Nat.le_refl _⟩
   have hd:∀ {sz:Option Nat},HdR x t.size (List.length (α:=t.den) y.1) y.2 sz→HdR (ν n) t.size (List.length (α:=t.den) y.1) y.2 sz∧((∃q,sz=some q)→(ν n).1=x.1):=by
    intro sz hd
    rcases hd with⟨g1,g2,g3⟩ | ⟨c',q,g1,g2,g3⟩
    ·exact⟨.inl ⟨e3.trans g1,g2,g3⟩,fun⟨q,hq⟩=>by rw[g2] at hq;cases hq⟩
    ·have:=e4 _ _ _ _ _ (e3.trans g1)
     exact⟨.inr ⟨c',q,by rw[e3,←this];exact g1,g2,g3⟩,fun _=>this.symm⟩
   rcases h1 with⟨g1,g2⟩ | ⟨w,m,g1,g2,g3⟩
   ·exact .inl ⟨(hd g1).1,g2⟩
   ·exact .inr ⟨w,m,by rw[(hd g2).2 ⟨_,rfl⟩];exact g1,(hd g2).1,g3⟩
theorem kaj:∀(ks:List Ak) {e:Env} {c:Cnv} {S:St} {ν:Nm} {M E:List Ent} (h:ConX B ro e (c.park E) S tm H nx ν F M R) {y:kj3 ks} {vs:List AV} (hr:j85 F ks y vs E) (hw:∀x∈E,x.w=true) {ss:List SV} {ν0:Nm} {nc:Nat} (hp:kjd ν0 nc ks ss vs) (hn:∀b,b<nc→ν b=ν0 b) (hnc:nc≤S.nc) {S':St} (hs:kkv ks y ss e S=some S'),
  ∃ν' M',ConX B ro e c S' tm H nx ν' F M' R
 | [],e,c,S,ν,M,E,h,y,vs,⟨hv,hE⟩,hw,ss,ν0,nc,hp,hn,hnc,S',hs=>by
   subst hE
   simp only[kkv] at hs
   split at hs<;>cases hs
   exact⟨ν,M,h⟩
 | k::ks,e,c,S,ν,M,E,h,y,vs,⟨a,vs',E1,E2,hv,hE,h1,h2⟩,hw,ss,ν0,nc,hp,hn,hnc,S',hs=>by
   subst hE
   obtain⟨s,ss',v,vs2,rfl,hv2,p1,p2⟩:=hp
   rw[hv] at hv2
   cases hv2
   simp only[kkv] at hs
   split at hs<;>try (cases hs;done)
   rename_i S1 hs1
   have h':ConX B ro e ((c.park E2).park E1) S tm H nx ν F M R:=by
    have:=h.reP (P':=E1++(E2++c.P)) (by
     show(E1++(E2++c.P)).Perm ((E2++E1)++c.P)
     rw[←List.append_assoc]
     exact List.Perm.append_right _ List.perm_append_comm)
    exact this
   obtain⟨ν1,M1,k1,k2,k3⟩:=kdy h' h1 (fun x hx=>hw x (by simp[hx])) p1 hn hnc hs1
   exact kaj ks k1 h2 (fun x hx=>hw x (by simp[hx])) p2 (fun b hb=>by rw[k2 b (by omega),hn b hb]) (by omega) hs
def ki4 {α:Type} (t:TR) (ss:List SV) (e:Env) (S:St) (k:SV→St→Option α):Option α:=
 match j9s t.f (ss.drop t.np) S.nc t.ks S.mv ss with
 | some (c,mv,a)=>j00 c ((t.run a).bind fun r=>match jvn t.outs r.1 e { S with mv:=mv } with
    | some (rs,S1)=>match kkv t.ks r.2 ss { e with ov:=rs++e.ov } S1 with
      | some S2=>k (j1r rs) S2
      | none=>none
    | none=>none)
 | none=>none
theorem ke7 {t:TR} (ht:t.OK B call) {α:Type} {ss:List SV} {k:SV→St→Option α} {r:α} (hs:ki4 t ss e S k=some r) (h:ConX B ro e c S tm H nx ν F M R) {vs:List AV} (hv:jb8 ν F ss vs):
  ∃v H' nx' s S' ν' F' M' R',call t.f vs H nx ro=some (v,H',nx')∧ConX B ro e c S' tm H' nx' ν' F' M' R'∧SVR ν' F' s v∧k s S'=some r:=by
 unfold ki4 at hs
 split at hs<;>try (cases hs;done)
 rename_i cc mv a ha
 obtain⟨hc,hs⟩:=jck hs
 obtain⟨⟨y,z⟩,hy,hs⟩:=Option.bind_eq_some_iff.1 hs
 split at hs<;>try (cases hs;done)
 rename_i rs S1 hi
 split at hs<;>try (cases hs;done)
 rename_i S2 hput
 obtain⟨E0,F1,M1,R1,q1,q2,q3,q4,q5⟩:=j53 t.ks h ha hc hv (jc0 t.np hv)
 have p0:(M1++(c.Mc++(R1++(c.park E0).O0))).Perm (E0++(M1++(c.Mc++(R1++c.O0)))):=by
  have e1:(c.park E0).O0=E0++c.O0:=by simp[Cnv.O0,Cnv.park]
  rw[e1]
  have p1:(R1++(E0++c.O0)).Perm (E0++(R1++c.O0)):=jfq R1 E0 _
  have p2:(c.Mc++(R1++(E0++c.O0))).Perm (E0++(c.Mc++(R1++c.O0))):=(List.Perm.append_left c.Mc p1).trans (jfq c.Mc E0 _)
  exact(List.Perm.append_left M1 p2).trans (jfq M1 E0 _)
 have hk:HK B ro (E0++(M1++(c.Mc++(R1++c.O0)))) H nx:=q1.hk.perm p0.symm
 have hA:∀x∈F1,Has (M1++(c.Mc++(R1++c.O0))) x.1 x.2∨jlg B x:=fun x hx=>by
  rcases q1.fz x hx with h1 | h1
  ·obtain⟨w,hm⟩:=h1.mem
   left
   exact Has.of_mem (w:=w) (by
    simp only[Cnv.O0]
    rcases List.mem_append.1 hm with h2 | h2
    ·simp[h2]
    ·have h3:(⟨x.1,w,x.2⟩:Ent)∈c.OF:=h2
     simp[h3])
  ·exact .inr h1
 obtain⟨v,E,Er,N,H',nx',F',k1,k2,k3,k4,k5,k6⟩:=ht a y z hy ro _ E0 H nx hk q2 F1 hA vs q4
 have hC:=jr6 { S with mv:=mv } F1 M1 R1 F' E0 q1 (E++Er) N H' nx' (by rw[List.append_assoc];exact k2) (fun x hx=>by
  rcases k4 x hx with h1 | h1 | h1
  ·exact .inl (Has.append_left h1)
  ·exact(q1.fz x h1).imp (fun h=>Has.append_right h) id
  ·exact .inr h1)
 rw[←jqj] at hC
 have up:∀x∈F',x∈F'++F1:=fun x hx=>List.mem_append.2 (.inl hx)
 obtain⟨us,rfl,k5⟩:=k5
 obtain⟨ν1,M2,j1,j2,j3,j4,j5⟩:=jq2 t.outs hC (jn5 up k5) (fun x hx=>k3 x (by simp[hx])) hi
 have j1':ConX B ro { e with ov:=rs++e.ov } (({ c with oa:=us++c.oa }:Cnv).park Er) S1 tm H' nx' ν1 (F'++F1) M2 (N++R1):=
  ⟨j1.hk,j1.fr,jbs j2 j1.ov,j1.mv,j1.wr,j1.mc,j1.fz,j1.gl⟩
 obtain⟨ν2,M3,g1⟩:=kaj t.ks j1' (jyd up k6) (fun x hx=>k3 x (by simp[hx])) q5 (fun b hb=>j3 b hb) j5 hput
 obtain⟨g2,g3⟩:=jks (jb5 j2) g1.ov
 exact⟨_,H',nx',_,S2,ν2,_,M3,_,k1,⟨g1.hk,g1.fr,g3,g1.mv,g1.wr,g1.mc,g1.fz,g1.gl⟩,jy3 g2,hs⟩
def kep:List TR→FuncId→Option TR
 | [],_=>none
 | t::r,f=>bif Nat.beq t.f f then some t else kep r f
theorem j61:∀ {T:List TR} {f:FuncId} {t:TR},kep T f=some t→t∈T∧t.f=f
 | [],f,t,h=>by cases h
 | t'::r,f,t,h=>by
   simp only[kep] at h
   cases hb:Nat.beq t'.f f<;>rw[hb] at h<;>simp only[cond_true,cond_false] at h
   ·obtain⟨h1,h2⟩:=j61 h
    exact⟨List.mem_cons_of_mem _ h1,h2⟩
   ·cases h
    rw[jaa,decide_eq_true_eq] at hb
    exact⟨List.mem_cons_self ..,hb⟩
def ko1 (T:List TR) (ch:CH):CH:=fun α q f ss e S k=>match kep T f with
 | some t=>sw q none (ki4 t ss e S k)
 | none=>ch α q f ss e S k
theorem j9t {T:List TR} (hT:∀t∈T,t.OK B call) {ch:CH} (hch:HOK B call ch):HOK B call (ko1 T ch):=by
 intro α q f ss e S k r hs ro c tm H nx ν F M R h vs hv
 unfold ko1 at hs
 split at hs
 ·rename_i t ht
  obtain⟨h1,rfl⟩:=j61 ht
  obtain⟨hq,hs⟩:=kkj hs
  subst hq
  exact ke7 (hT t h1) hs h hv
 ·exact hch α q f ss e S k r hs ro c tm H nx ν F M R h vs hv
variable {memo:jn7} {prog:Tr CFn}
def kjy (N:Nat) (T:List TE) (T2:List TR) (C:List (FuncId×Fx)):Nat→CH
 | 0=>ko1 T2 (kjn T noC)
 | d+1=>ko1 T2 (kjn T (kpc N (kbu C) (kjy N T T2 C d)))
def kc0 (B:Base) (memo:jn7) (prog:Tr CFn) (m:Nat) (T:List TR):Prop:=∀t∈T,∀n,m≤n→t.OK B (js8 B memo prog n)
theorem kbp {T:List TE} {T2:List TR} {C:List (FuncId×Fx)} {m:Nat} (hT:OKs B memo prog m T) (hT2:kc0 B memo prog m T2) (hC:jo1 memo prog C):∀d n,m+d≤n→HOK B (js8 B memo prog n) (kjy fuel T T2 C d)
 | 0,n,h=>j9t (fun t ht=>hT2 t ht n (by omega)) (jyj (fun t ht=>hT t ht n (by omega)) kfy)
 | d+1,n+1,h=>j9t (fun t ht=>hT2 t ht _ (by omega)) (jyj (fun t ht=>hT t ht _ (by omega)) (kbj (kbp hT hT2 hC d n (by omega)) fun f x hx vs H nx ro=>by
    obtain⟨h1,h2⟩:=hC _ (jzu hx)
    simp only[js8,h1 vs,h2]))
theorem kga {T:List TE} {T2:List TR} {C:List (FuncId×Fx)} {m d:Nat} (hT:OKs B memo prog m T) (hT2:kc0 B memo prog m T2) (hC:jo1 memo prog C) {G:Mem} (hG:GRel B nu0 G) {f:FuncId} {x:Fx} (hx:(∀vs,memo f vs=none)∧prog.get f=some x.cfn) {ins outs:List Rep}
  {run:jl4 ins→Option (jl4 outs)} (hr:∀a,jc7 fuel (kjy fuel T T2 C d) G x ins outs a=run a):OKs B memo prog (m+d+1) [⟨f,ins,outs,run⟩]:=by
 intro t ht n hn
 rw[List.mem_singleton.1 ht]
 match n,hn with
 | n+1,hn=>
   have h1:=kab (kbp hT hT2 hC d n (by omega)) hG (x:=x) (ins:=ins) (outs:=outs) (f:=f) (call':=js8 B memo prog (n+1)) (fun vs H nx ro=>by simp only[js8,hx.1 vs,hx.2])
   have e:run=jc7 fuel (kjy fuel T T2 C d) G x ins outs:=funext fun a=>(hr a).symm
   rw[e];exact h1
theorem j7r {m:Nat}:kc0 B memo prog m []:=fun t ht=>by cases ht
theorem j3m {m:Nat} {t:TR} {T:List TR} (h:kc0 B memo prog m [t]) (h':kc0 B memo prog m T):kc0 B memo prog m (t::T):=fun u hu n hn=>by
 rcases List.mem_cons.1 hu with rfl | hu
 ·exact h _ (List.mem_singleton.2 rfl) n hn
 ·exact h' u hu n hn
theorem kcz {m m':Nat} {T:List TR} (h:kc0 B memo prog m T) (hm:m≤m'):kc0 B memo prog m' T:=fun t ht n hn=>h t ht n (by omega)
end X
end Go.Vm
namespace Go.Vm
namespace X
open W
variable {B:Base} {memo:jn7} {prog:Tr CFn} {ro:Nat} {O:List Ent} {H:Tr Blk} {nx:Nat} {F:jaj}
theorem jgz {c:Tr AV}:∀ {l:List AV} {i:Nat},(∀j,j<l.length→c.get (i+j)=l[j]?)→take c i l.length=some l
 | [],i,h=>rfl
 | a::l,i,h=>by
   have h0:=h 0 (by simp)
   rw[Nat.add_zero] at h0
   have:=jgz (c:=c) (l:=l) (i:=i+1) fun j hj=>by
    have:=h (j+1) (by simpa using hj)
    rw[show i+1+j=i+ (j+1) by omega]
    simpa using this
   simp only[List.length_cons,take]
   rw[h0]
   simp only[List.getElem?_cons_zero,this]
end X
end Go.Vm
namespace Go.Vm
namespace X
open W
variable {B:Base} {memo:jn7} {prog:Tr CFn} {ro:Nat} {O:List Ent} {H:Tr Blk} {nx:Nat} {F:jaj}
def Ty.dat:Ty→Bool
 | .int _ | .bool=>true
 | .prod a b=>a.dat&&b.dat
 | _=>false
theorem j5f {F:jaj}:∀(t:Ty),t.dat=true→∀(x:t.den) (l:List AV),jb0 F t x l→l=jz3 t x
 | .int k,_,x,l,h=>h
 | .bool,_,x,l,h=>h
 | .prod a b,h,x,l,⟨l1,l2,e,h1,h2⟩=>by
   simp only[Ty.dat,Bool.and_eq_true] at h
   rw[e,j5f a h.1 _ _ h1,j5f b h.2 _ _ h2,jz3]
theorem jtv {F:jaj}:∀(t:Ty),t.dat=true→∀x:t.den,jb0 F t x (jz3 t x)
 | .int k,_,x=>rfl
 | .bool,_,x=>rfl
 | .prod a b,h,x=>by
   simp only[Ty.dat,Bool.and_eq_true] at h
   exact⟨_,_,rfl,jtv a h.1 x.1,jtv b h.2 x.2⟩
theorem jtw:∀(t:Ty),t.dat=true→∀x:t.den,(jz3 t x).all ke3=true
 | .int k,_,x=>rfl
 | .bool,_,x=>rfl
 | .prod a b,h,x=>by
   simp only[Ty.dat,Bool.and_eq_true] at h
   rw[jz3,List.all_append,jtw a h.1,jtw b h.2];rfl
theorem jz2:∀(t:Ty),t.dat=true→∀x:t.den,(jz3 t x).all js3=true
 | .int k,_,x=>rfl
 | .bool,_,x=>rfl
 | .prod a b,h,x=>by
   simp only[Ty.dat,Bool.and_eq_true] at h
   rw[jz3,List.all_append,jz2 a h.1,jz2 b h.2];rfl
def jow (t:Ty) (L:List t.den):List AV:=L.flatMap (jz3 t)
theorem kb2 {F:jaj} {t:Ty} (ht:t.dat=true):∀ {L:List t.den} {l:List AV},jd1 (jb0 F t) L l→l=jow t L
 | [],l,h=>h
 | x::L,l,⟨l1,l2,e,h1,h2⟩=>by
   rw[e,j5f t ht _ _ h1,kb2 ht h2]
   unfold jow
   rw[List.flatMap_cons]
theorem jz0 {F:jaj} {t:Ty} (ht:t.dat=true):∀(L:List t.den),jd1 (jb0 F t) L (jow t L)
 | []=>rfl
 | x::L=>⟨_,_,by unfold jow;rw[List.flatMap_cons],jtv t ht x,jz0 ht L⟩
theorem jz1 {t:Ty} (ht:t.dat=true) (L:List t.den):(jow t L).length=L.length*t.size:=
 jb6 (fun x l h=>jak (F:=[]) _ _ _ h) (jz0 (F:=[]) ht L)
theorem kex {t:Ty} (ht:t.dat=true) (L:List t.den):(jow t L).all ke3=true:=by
 unfold jow
 rw[List.all_flatMap]
 exact List.all_eq_true.2 fun x _=>jtw t ht x
theorem kew {t:Ty} (ht:t.dat=true) (L:List t.den):(jow t L).all js3=true:=by
 unfold jow
 rw[List.all_flatMap]
 exact List.all_eq_true.2 fun x _=>jz2 t ht x
theorem j09 {t:Ty} (ht:t.dat=true) {sv:List AV→Option (List AV)} {srt:List t.den→List t.den} {ok:List t.den→Bool} (hsl:∀L,(srt L).length=L.length) (hsv:∀L,ok L=true→sv (jow t L)=some (jow t (srt L))) {f fc:FuncId} (hm:∀az g,jqb t.size sv f fc f az=some g→memo f az=some g):
  kc0 B memo prog 1 [⟨f,2,[.row t,.v (.fn fc)],[],fun a=>(bif(List.length (α:=t.den) a.1.1).ble 1000000&&ok a.1.1 then some (srt a.1.1) else none).map fun l=>((),((l,a.1.2),((),())))⟩]:=by
 intro tt htt n hn
 rw[List.mem_singleton.1 htt]
 match n,hn with
 | n+1,_=>
 intro a r y hr ro O E0 H nx hk hw A hA vs hv
 obtain⟨⟨L,cp⟩,u,w0⟩:=a
 simp only[Option.map_eq_some_iff] at hr
 obtain⟨M,hM,hr⟩:=hr
 cases hr
 obtain⟨hc,hM⟩:=jah hM
 cases hM
 rw[Bool.and_eq_true,jae,decide_eq_true_eq] at hc
 obtain⟨hc,hokL⟩:=hc
 obtain⟨v1,vs1,E1,E2,rfl,rfl,h1,v2,vs2,E3,E4,rfl,rfl,h2,rfl,rfl⟩:=hv
 obtain⟨rfl,rfl⟩:v2=.fn (.func fc) [] []∧E3=[]:=by
  obtain⟨h2,h3⟩:=h2
  cases h2
  exact⟨rfl,h3⟩
 have hcall:∀g,memo f [v1,.fn (.func fc) [] []]=some g→js8 B memo prog (n+1) f [v1,.fn (.func fc) [] []] H nx ro=g H nx ro:=fun g hg=>by
  simp only[js8,hg]
  rw[if_pos hk.base]
 have hmm0:jqb t.size sv f fc f [.nils,.fn (.func fc) [] []]=some (fun H nx _=>some (.tup [],H,nx)):=by
  unfold jqb
  rw[jaa,decide_eq_true rfl,cond_true]
  show(bif Nat.beq fc fc then _ else _)=_
  rw[jaa,decide_eq_true rfl,cond_true]
 have hmm1:∀b o n cap,jqb t.size sv f fc f [.sl b o n cap t.size,.fn (.func fc) [] []]=some (fun H nx ro=>match n with
   | 0=>some (.tup [],H,nx)
   | n+1=>jxi t.size sv ro H nx b o (n+1)):=fun b o n cap=>by
  unfold jqb
  rw[jaa,decide_eq_true rfl,cond_true]
  show(bif Nat.beq fc fc&&Nat.beq t.size t.size then _ else _)=_
  rw[jaa,jaa,decide_eq_true rfl,decide_eq_true rfl,Bool.and_self,cond_true]
  rfl
 obtain⟨x,rfl,hz,hB⟩:=h1
 simp only[List.nil_append] at hk hw
 have done0:L=[]→memo f [x.2,.fn (.func fc) [] []]=some (fun H nx _=>some (.tup [],H,nx))∨(∃g,memo f [x.2,.fn (.func fc) [] []]=some g∧g H nx ro=some (.tup [],H,nx))→∃v E Er N H' nx' F',js8 B memo prog (n+1) f [x.2,.fn (.func fc) [] []] H nx ro=some (v,H',nx')∧HK B ro (E++(Er++(N++O))) H' nx'∧(∀x∈E++Er,x.w=true)∧(∀x∈F',Has N x.1 x.2∨x∈A∨jlg B x)∧kfd F' [] () v E∧j85 F' [.row t,.v (.fn fc)] ((srt L,cp),((),())) [x.2,.fn (.func fc) [] []] Er:=by
  intro hL hmm
  subst hL
  have hs0:srt []=[]:=List.length_eq_zero_iff.1 (hsl [])
  rw[hs0]
  have hg:∃g,memo f [x.2,.fn (.func fc) [] []]=some g∧g H nx ro=some (.tup [],H,nx):=by
   rcases hmm with h | h
   ·exact⟨_,h,rfl⟩
   ·exact h
  obtain⟨g,hg,hg2⟩:=hg
  refine⟨.tup [],[],E1,[],H,nx,A,by rw[hcall g hg,hg2],hk,hw,fun x hx=>.inr (.inl hx),⟨[],rfl,rfl,rfl⟩,x.2,[.fn (.func fc) [] []],E1,[],rfl,rfl,⟨x,rfl,hz,hB⟩,_,[],[],[],rfl,rfl,rfl,rfl,rfl⟩
 rcases hB with⟨hd,rfl⟩ | ⟨w,m,rfl,hd,hrel,hone⟩
 ·rcases hd with⟨e1,_,e2,_⟩ | ⟨_,_,_,e,_⟩
  ·have hL:L=[]:=List.length_eq_zero_iff.1 e2
   refine done0 hL (.inl (hm _ _ ?_))
   rw[e1]
   exact hmm0
  ·cases e
 ·rcases hd with⟨_,e,_⟩ | ⟨cap,k,e1,e2,e3,e4,e5⟩
  ·cases e
  ·cases e2
   by_cases hL:L=[]
   ·refine done0 hL (.inr ⟨_,hm _ _ (by rw[e1];exact hmm1 _ _ _ _),by subst hL;rfl⟩)
   ·have hw1:w=true:=hw _ (List.mem_singleton.2 rfl)
    subst hw1
    have hent:=hk.ent ⟨x.1,true,.cells m⟩ (by simp)
    have hrx:=hent.2.1 rfl
    simp only at hrx
    obtain⟨c,g1,g2⟩:=hent.2.2
    simp only at g1 g2
    have hlen:L.length*t.size≤m.length:=by
     have e3:L.length*t.size≤m.length:=e3
     exact e3
    have hrel':jd1 (jb0 A t) L (m.take (L.length*t.size)):=hrel
    have em:=kb2 ht hrel'
    have hml:(m.take (L.length*t.size)).length=L.length*t.size:=by rw[List.length_take];omega
    have htk:take c 0 (m.take (L.length*t.size)).length=some (m.take (L.length*t.size)):=jgz fun j hj=>by
     rw[hml] at hj
     rw[Nat.zero_add,g2 j (by omega),List.getElem?_take,if_pos (by omega)]
    rw[hml,em] at htk
    have hn0:0<L.length:=by
     cases L with
     | nil=>exact absurd rfl hL
     | cons a l=>simp
    have hls:=hsl L
    have hel:(jow t (srt L)).length=L.length*t.size:=by rw[jz1 ht,hls]
    have hsort:jxi t.size sv ro H nx x.1 0 L.length=some (.tup [],H.set x.1 (.cells (put (jow t (srt L)) 0 c) m.length),nx):=by
     unfold jxi
     simp only[g1]
     rw[show((rx ro).ble x.1&&(1:Nat).ble L.length&&L.length.ble 1000000)=true by simp only[Bool.and_eq_true,jae,decide_eq_true_eq];exact⟨⟨hrx,hn0⟩,hc⟩]
     rw[cond_true,show(0+L.length*t.size).ble m.length=true by simp only[jae,decide_eq_true_eq];omega,cond_true]
     simp only[htk,kex ht,cond_true,hsv L hokL]
     rw[show((true&&(jow t (srt L)).length.beq (L.length*t.size)))=true by rw[hel,Bool.true_and,jaa,decide_eq_true rfl],cond_true]
    have hk':=hk.upd (c':=.cells (jow t (srt L)++m.drop (L.length*t.size))) .here (.cells (put (jow t (srt L)) 0 c) m.length) ⟨put (jow t (srt L)) 0 c,by rw[Tr.get_set,if_pos rfl,List.length_append,hel,List.length_drop];congr 2;omega,fun i hi=>by
     rw[jgk,hel,List.getElem?_append,hel,Nat.zero_add,Nat.sub_zero]
     by_cases hc:i<L.length*t.size
     ·rw[if_pos ⟨Nat.zero_le _,hc⟩,if_pos hc]
     ·rw[if_neg (fun h=>hc h.2),if_neg hc,List.getElem?_drop,show L.length*t.size+ (i-L.length*t.size)=i by omega]
      rw[List.length_append,hel,List.length_drop] at hi
      exact g2 i (by omega)⟩
    have hln:(jow t (srt L)++m.drop (L.length*t.size)).length=m.length:=by
     rw[List.length_append,hel,List.length_drop];omega
    refine⟨.tup [],[],_,[],_,nx,A,?_,hk',fun y hy=>by rw[List.mem_singleton.1 hy],fun x hx=>.inr (.inl hx),⟨[],rfl,rfl,rfl⟩,x.2,[.fn (.func fc) [] []],_,[],rfl,rfl,⟨x,rfl,hz,.inr ⟨true,_,rfl,.inr ⟨cap,_,?_,rfl,?_,fun k hk=>?_,fun k hk=>e5 k hk⟩,?_,?_⟩⟩,_,[],[],[],rfl,rfl,rfl,rfl,rfl⟩
    ·obtain⟨k,hk2⟩:∃k,L.length=k+1:=⟨L.length-1,by omega⟩
     have:=hm [x.2,.fn (.func fc) [] []] _ (by rw[e1];exact hmm1 _ _ _ _)
     rw[hcall _ this]
     show(match List.length (α:=t.den) L with
      | 0=>_
      | k+1=>jxi t.size sv ro H nx x.1 0 (k+1))=_
     rw[hk2] at hsort ⊢
     exact hsort
    ·show x.2=.sl x.1 0 (srt L).length cap _
     rw[hls];exact e1
    ·show(srt L).length*_≤_
     rw[hls,hln]
     exact hlen
    ·have:=e4 k hk
     rw[hln]
     refine⟨this.1,?_⟩
     show(srt L).length≤k
     rw[hls]
     exact this.2
    ·show jd1 _ (srt L) (List.take ((srt L).length*_) _)
     rw[hls,List.take_append_of_le_length (by omega),List.take_of_length_le (by omega)]
     exact jz0 ht _
    ·rw[List.all_append,Bool.and_eq_true]
     exact⟨kew ht _,List.all_eq_true.2 fun a ha=>List.all_eq_true.1 hone a (List.mem_of_mem_drop ha)⟩
end X
end Go.Vm
namespace Go.Vm
namespace X
open W Go Go.RowKit Go.Shelf Go.Sort Go.Proofs
section sort
variable {α:Type} (cf:α→α→Int)
def kjx (x:α):List α→List α
 | []=>[x]
 | y::l=>bif decide (cf y x<0) then y::kjx x l else x::y::l
def sortC:List α→List α
 | []=>[]
 | x::l=>kjx cf x (sortC l)
theorem jvm (x:α):∀l,(kjx cf x l).Perm (x::l)
 | []=>List.Perm.refl _
 | y::l=>by
   simp only[kjx]
   cases decide (cf y x<0) with
   | true=>exact((jvm x l).cons y).trans (List.Perm.swap x y l)
   | false=>exact List.Perm.refl _
theorem jea:∀l,(sortC cf l).Perm l
 | []=>List.Perm.refl _
 | x::l=>(jvm cf x _).trans ((jea l).cons x)
theorem jvl (hO:SWO (ltOf cf)) (x:α):∀ {l:List α},l.Pairwise (fun a b=>¬cf b a<0)→(kjx cf x l).Pairwise (fun a b=>¬cf b a<0)
 | [],_=>List.pairwise_singleton _ _
 | y::l,h=>by
   have nt:∀a b c:α,¬cf b a<0→¬cf c b<0→¬cf c a<0:=fun a b c h1 h2 h3=>by
    have:=hO.ntrans c b a (by unfold ltOf;exact decide_eq_false h2) (by unfold ltOf;exact decide_eq_false h1)
    unfold ltOf at this
    exact of_decide_eq_false this h3
   simp only[kjx]
   rw[List.pairwise_cons] at h
   cases hc:decide (cf y x<0) with
   | false=>
     simp only[cond_false]
     have hc:=of_decide_eq_false hc
     refine List.pairwise_cons.2 ⟨fun a ha=>?_,List.pairwise_cons.2 h⟩
     rcases List.mem_cons.1 ha with rfl | ha
     ·exact hc
     ·exact nt _ _ _ hc (h.1 a ha)
   | true=>
     simp only[cond_true]
     have hc:=of_decide_eq_true hc
     refine List.pairwise_cons.2 ⟨fun a ha=>?_,jvl hO x h.2⟩
     rcases List.mem_cons.1 ((jvm cf x l).subset ha) with rfl | ha
     ·intro c
      have t:=hO.trans _ _ _ (show ltOf cf y _=true by unfold ltOf;exact decide_eq_true hc) (show ltOf cf _ y=true by unfold ltOf;exact decide_eq_true c)
      rw[hO.irrefl] at t
      cases t
     ·exact h.1 a ha
theorem jjt (hO:SWO (ltOf cf)):∀l,(sortC cf l).Pairwise (fun a b=>¬cf b a<0)
 | []=>List.Pairwise.nil
 | x::l=>jvl cf hO x (jjt hO l)
theorem jkf:∀ {l m:List α} (_:∀x∈l,∀y∈l,¬cf x y<0→¬cf y x<0→x=y),l.Pairwise (fun a b=>¬cf b a<0)→m.Pairwise (fun a b=>¬cf b a<0)→l.Perm m→l=m
 | [],m,_,_,_,h=>(List.Perm.nil_eq h)
 | a::l,[],_,_,_,h=>by have:=h.length_eq;simp at this
 | a::l,b::m,h0,h1,h2,h=>by
   rw[List.pairwise_cons] at h1 h2
   have e:a=b:=by
    rcases List.mem_cons.1 (h.subset (List.mem_cons_self)) with e | e
    ·exact e
    ·rcases List.mem_cons.1 (h.symm.subset (List.mem_cons_self)) with e2 | e2
     ·exact e2.symm
     ·exact h0 _ (List.mem_cons_self) _ (List.mem_cons_of_mem _ e2) (h2.1 a e) (h1.1 b e2)
   subst e
   rw[jkf (fun x hx y hy=>h0 x (List.mem_cons_of_mem _ hx) y (List.mem_cons_of_mem _ hy)) h1.2 h2.2 (List.Perm.cons_inv h)]
def jz4:List α→Bool
 | []=>true
 | x::l=>(match l with
   | []=>true
   | y::_=>decide (cf x y<0))&&jz4 l
end sort
def ke1:(t:Ty)→List AV→Option (t.den×List AV)
 | .int k,.int k' z::l=>if k=k' then some (z,l) else none
 | .bool,.bool b::l=>some (b,l)
 | .prod a b,l=>match ke1 a l with
   | some (x,l1)=>(match ke1 b l1 with
     | some (y,l2)=>some ((x,y),l2)
     | none=>none)
   | none=>none
 | _,_=>none
def kj0 (t:Ty):Nat→List AV→Option (List t.den)
 | 0,[]=>some []
 | 0,_::_=>none
 | n+1,l=>match ke1 t l with
   | some (x,l1)=>(match kj0 t n l1 with
     | some L=>some (x::L)
     | none=>none)
   | none=>none
theorem jz5:∀(t:Ty),t.dat=true→∀(x:t.den) (l:List AV),ke1 t (jz3 t x++l)=some (x,l)
 | .int k,_,x,l=>by
   show(if k=k then some (x,l) else none)=_
   rw[if_pos rfl]
 | .bool,_,x,l=>rfl
 | .prod a b,h,x,l=>by
   simp only[Ty.dat,Bool.and_eq_true] at h
   rw[ke1,jz3,List.append_assoc,jz5 a h.1]
   simp only[jz5 b h.2]
theorem jr4:∀(t:Ty),t.dat=true→∀ {l:List AV} {x:t.den} {l':List AV},ke1 t l=some (x,l')→l=jz3 t x++l'
 | .int k,_,l,x,l',h=>by
   match l,h with
   | .int k' z::l,h=>
     simp only[ke1] at h
     split at h
     ·rename_i e
      subst e
      cases h
      rfl
     ·cases h
 | .bool,_,l,x,l',h=>by
   match l,h with
   | .bool b::l,h=>
     simp only[ke1] at h
     cases h
     rfl
 | .prod a b,hd,l,x,l',h=>by
   simp only[Ty.dat,Bool.and_eq_true] at hd
   rw[ke1] at h
   split at h<;>try (cases h;done)
   rename_i y l1 e1
   split at h<;>try (cases h;done)
   rename_i z l2 e2
   cases h
   rw[jr4 a hd.1 e1,jr4 b hd.2 e2,jz3,List.append_assoc]
theorem j65 {t:Ty} (ht:t.dat=true):∀L:List t.den,kj0 t L.length (jow t L)=some L
 | []=>rfl
 | x::L=>by
   rw[List.length_cons,kj0,jow,List.flatMap_cons,jz5 t ht]
   have:=j65 ht L
   unfold jow at this
   simp only[this]
theorem jx5 {t:Ty} (ht:t.dat=true):∀ {n:Nat} {l:List AV} {L:List t.den},kj0 t n l=some L→l=jow t L∧L.length=n
 | 0,[],L,h=>by cases h;exact⟨rfl,rfl⟩
 | 0,_::_,L,h=>by cases h
 | n+1,l,L,h=>by
   rw[kj0] at h
   split at h<;>try (cases h;done)
   rename_i x l1 e1
   split at h<;>try (cases h;done)
   rename_i L1 e2
   cases h
   obtain⟨h1,h2⟩:=jx5 ht e2
   refine⟨?_,by rw[List.length_cons,h2]⟩
   rw[jr4 t ht e1,h1]
   unfold jow
   rw[List.flatMap_cons]
theorem jvw:∀ {t:Ty},t.dat=true→0<t.size
 | .int _,_=>Nat.one_pos
 | .bool,_=>Nat.one_pos
 | .prod a b,h=>by
   simp only[Ty.dat,Bool.and_eq_true] at h
   have:=jvw h.1
   rw[Ty.size];omega
def svK (t:Ty) (cf:t.den→t.den→Int) (ok:List t.den→Bool) (A:List AV):Option (List AV):=match kj0 t (A.length / t.size) A with
 | some L=>bif ok L then some (jow t (sortC cf L)) else none
 | none=>none
theorem j91 {t:Ty} (ht:t.dat=true) {cf:t.den→t.den→Int} {ok:List t.den→Bool} (L:List t.den) (h:ok L=true):svK t cf ok (jow t L)=some (jow t (sortC cf L)):=by
 unfold svK
 rw[jz1 ht,Nat.mul_div_cancel _ (jvw ht),j65 ht]
 simp only[h,cond_true]
theorem j90 {t:Ty} (ht:t.dat=true) {cf:t.den→t.den→Int} {ok:List t.den→Bool} {n:Nat} {A A':List AV} (hl:A.length=n*t.size) (h:svK t cf ok A=some A'):∃L:List t.den,A=jow t L∧L.length=n∧A'=jow t (sortC cf L)∧ok L=true:=by
 unfold svK at h
 rw[hl,Nat.mul_div_cancel _ (jvw ht)] at h
 split at h<;>try (cases h;done)
 rename_i L e
 obtain⟨h1,h2⟩:=jx5 ht e
 obtain⟨h3,h⟩:=jah h
 cases h
 exact⟨L,h1,h2,rfl,h3⟩
theorem kbt {α β:Type} {f:α→List β} {k:Nat} (hk:∀x,(f x).length=k) (k0:0<k) (d:α):∀(L:List α) (i:Nat),i<L.length*k→(L.flatMap f)[i]?=(f (L.getD (i / k) d))[i%k]?
 | [],i,h=>by simp at h
 | x::L,i,h=>by
   rw[List.flatMap_cons]
   by_cases c:i<k
   ·rw[List.getElem?_append_left (by rw[hk];exact c),Nat.div_eq_of_lt c,Nat.mod_eq_of_lt c];rfl
   ·obtain⟨j,rfl⟩:∃j,i=j+k:=⟨i-k,by omega⟩
    rw[List.getElem?_append_right (by rw[hk];omega),hk,Nat.add_sub_cancel,kbt hk k0 d L j (by rw[List.length_cons,Nat.add_mul] at h;omega),Nat.add_div_right _ k0,Nat.add_mod_right]
    rfl
def jzy (t:Ty) (x:t.den):List Value:=(jz3 t x).map j3x
theorem jzx {t:Ty} (ht:t.dat=true) (x:t.den):(jzy t x).length=t.size:=by
 rw[jzy,List.length_map]
 exact jak (F:=[]) t x _ (jtv t ht x)
theorem kev {t:Ty} (ht:t.dat=true) (x:t.den):∀v∈jzy t x,v.oneCell'=true:=fun v hv=>by
 obtain⟨a,ha,rfl⟩:=List.mem_map.1 hv
 have:=List.all_eq_true.1 (jtw t ht x) a ha
 cases a<;>first | rfl | (cases this;done)
theorem j2l {t:Ty} (ht:t.dat=true) (L:List t.den):letI:Inhabited t.den:=⟨t.df⟩;(flatK (jzy t) t.size L.toArray).toList=(jow t L).map j3x:=by
 letI:Inhabited t.den:=⟨t.df⟩
 have hp:=jvw ht
 refine List.ext_getElem? fun i=>?_
 by_cases hi:i<L.length*t.size
 ·have h1:i< (flatK (jzy t) t.size L.toArray).size:=by rw[size_flatK];simpa using hi
  rw[Array.getElem?_toList,Array.getElem?_eq_getElem h1,←getElem!_pos _ i h1,get_flatK _ _ _ _ (by simpa using hi)]
  have e:=kbt (f:=jzy t) (jzx ht) hp t.df L i hi
  have e2:(jow t L).map j3x=L.flatMap (jzy t):=by
   unfold jow jzy
   rw[List.map_flatMap]
  rw[e2,e]
  have hq:i / t.size<L.length:=Nat.div_lt_of_lt_mul (by rw[Nat.mul_comm];exact hi)
  have e3:(L.toArray)[i / t.size]! =L.getD (i / t.size) t.df:=by
   rw[getElem!_pos _ _ (by simpa using hq),List.getD_eq_getElem?_getD,List.getElem?_eq_getElem hq]
   simp
  have hm:i%t.size< (jzy t (L.getD (i / t.size) t.df)).length:=by rw[jzx ht];exact Nat.mod_lt _ hp
  rw[e3,List.getElem?_eq_getElem hm,getElem!_pos (jzy t (L.getD (i / t.size) t.df)) (i%t.size) hm]
 ·rw[List.getElem?_eq_none,List.getElem?_eq_none]
  ·rw[List.length_map,jz1 ht];omega
  ·rw[Array.length_toList,size_flatK];simp;omega
theorem kad {P:Program} {ρ:Ren} (L0:SlLaysF0.n6 P ρ) {t:Ty} (ht:t.dat=true) (aE:∀w,(isAgg (ρ.t 24)).run P w=.ok true w) (zE:∀w,(Go.sizeOf (ρ.t 24)).run P w=.ok t.size w)
  {cf:t.den→t.den→Int} (hO:SWO (ltOf cf)) {ok:List t.den→Bool} (h0:∀L,ok L=true→∀x∈L,∀y∈L,¬cf x y<0→¬cf y x<0→x=y) {fc:Nat} (eg:∀args w,(callFunc fc args).run P w=.ok (.enter fc args) w)
  (hc:∀(x y:t.den) (w:World),Calls P fc #[.agg (jzy t x).toArray,.agg (jzy t y).toArray] w fun e w'=>e=.returned (.int .i64 (cf x y))∧∃q os',w'=grow (w.drewN q) os'):W.RowK P t.size (svK t cf ok) (ρ.f 6) fc:=by
 letI:Inhabited t.den:=⟨t.df⟩
 intro blk off n c A A' w hA hn hn6 hnc hd hsv hd' hl' hcell
 obtain⟨L,rfl,hL,rfl,hok⟩:=j90 ht hA hsv
 have hp:=jvw ht
 have hf:=j2l ht L
 have hsz:(flatK (jzy t) t.size L.toArray).size=n*t.size:=by rw[size_flatK];simp[hL]
 have hpos:0<n*t.size:=Nat.mul_pos hn hp
 have hcell':∀j,j< (flatK (jzy t) t.size L.toArray).size→w.cell? ⟨blk,off+j,none⟩=some (flatK (jzy t) t.size L.toArray)[j]! ∧w.frozen? ⟨blk,off+j,none⟩=false:=fun j hj=>by
  refine hcell j _ ?_
  rw[←hf,Array.getElem?_toList,Array.getElem?_eq_getElem hj,getElem!_pos _ j hj]
 have hblk:blk<w.heap.size:=block_lt_of_cell (hcell' 0 (by omega)).1
 have h:=AnyQ.slices_SortFunc_eq L0 t.size aE zE (jzy t) (jzx ht) (kev ht) cf hO fc #[] blk off c L.toArray w eg (fun m os dk hdk x y=>hc x y _) hcell' hblk (by simp;omega)
 rw[show L.toArray.size=n by simpa using hL] at h
 refine h.mono ?_
 rintro e w' ⟨rfl,k,os,rfl⟩
 have hps:=pdq_sorts (ltOf cf) hO L.toArray 0 n (Lib.bitLen n) true true (Nat.zero_le _) (by simp[hL]) (Or.inl rfl)
 obtain⟨⟨p1,_,p3⟩,p4⟩:=hps
 generalize pdq (ltOf cf) L.toArray 0 n (Lib.bitLen n) true true=D at *
 have hDs:D.size=n:=by rw[p1];simpa using hL
 have eD:D.toList=sortC cf L:=by
  refine(jkf cf (fun x hx y hy=>h0 L hok x ((jea cf L).subset hx) y ((jea cf L).subset hy)) (jjt cf hO L) ?_ ?_).symm
  ·rw[List.pairwise_iff_getElem]
   intro i j hi hj hij
   have hi':i<D.size:=by simpa using hi
   have hj':j<D.size:=by simpa using hj
   have:=p4 i j (Nat.zero_le _) hij (by omega)
   rw[getElem!_pos D i hi',getElem!_pos D j hj'] at this
   unfold ltOf at this
   simpa using of_decide_eq_false this
  ·have e2:D.extract 0 n=D:=by rw[←hDs];simp
   have e3:L.toArray.extract 0 n=L.toArray:=by
    have:L.toArray.size=n:=by simpa using hL
    conv=>lhs;rw[←this]
    simp
   rw[e2,e3] at p3
   have p3':D.toList.Perm L:=by simpa using p3
   exact(jea cf L).trans p3'.symm
 have hfD:=j2l ht (sortC cf L)
 rw[←eD] at hfD
 rw[show D.toList.toArray=D from by simp] at hfD
 have hDz:(flatK (jzy t) t.size D).size=n*t.size:=by rw[size_flatK,hDs]
 rw[←eD]
 have hFl:((jow t D.toList).map j3x).length=n*t.size:=by rw[←hfD];simpa using hDz
 show _=_∧kcr w (grow (putRow id (Sort.ahead w k) blk off (flatK (jzy t) t.size D)) os) blk off _
 generalize flatK (jzy t) t.size D=F at *
 refine⟨rfl,rfl,rfl,rfl,by simp[putRow,mapBlock,Sort.ahead],fun x hx hne=>?_,fun cs e fr hb=>?_⟩
 ·rw[heap_grow_old _ _ (by simpa[putRow,mapBlock,Sort.ahead] using hx)]
  simp only[putRow,mapBlock,Sort.ahead,Array.getElem?_modify,if_neg (fun e=>hne (Eq.symm e))]
 ·refine⟨putCells id off F cs,?_,by simp[putCells],fun j hj=>?_⟩
  ·rw[heap_grow_old _ _ (by simpa[putRow,mapBlock,Sort.ahead] using hblk)]
   simp only[putRow,mapBlock,Sort.ahead,Array.getElem?_modify,if_true,hb,Option.map_some,onCells]
  ·rw[hFl]
   simp only[putCells,Array.getElem?_mapIdx,Array.getElem?_eq_getElem hj,Option.map_some,hDz]
   by_cases hc:off≤j∧j<off+n*t.size
   ·rw[if_pos hc,if_pos hc,getElem!_pos F (j-off) (by omega),←hfD,Array.getElem?_toList,Array.getElem?_eq_getElem (by omega)]
    rfl
   ·rw[if_neg hc,if_neg hc]
end X
end Go.Vm
namespace Go.Vm
namespace X
open W Go Go.RowKit Go.Shelf Go.Sort Go.Lib Go.Proofs
abbrev kgn:=Int×((Int×Int)×(Int×Int))
abbrev jc1:=Int×(Int×Int)
def ko2:Ty:=.prod (.int .u8) (.prod (.prod (.int .u8) (.int .i64)) (.prod (.int .i64) (.int .i64)))
def ko3:Ty:=.prod (.int .i64) (.prod (.int .u8) (.int .u8))
def c3 (a b:Int):Int:=bif decide (a<b) then -1 else bif decide (b<a) then 1 else 0
def lx (a b:Int):Int:=bif decide (a=0) then b else a
def cfG (x y:kgn):Int:=lx (c3 (wrap64 x.2.1.1) (wrap64 y.2.1.1)) (lx (c3 x.2.1.2 y.2.1.2) (c3 x.2.2.1 y.2.2.1))
def cfC (x y:jc1):Int:=lx (c3 x.1 y.1) (c3 (wrap64 x.2.1) (wrap64 y.2.1))
theorem kca {a b:Int}:c3 a b<0↔a<b:=by
 unfold c3
 by_cases h:a<b
 ·simp[h]
 ·by_cases h2:b<a<;>simp[h,h2]
theorem kr4 {a b:Int}:c3 a b=0↔a=b:=by
 unfold c3
 by_cases h:a<b
 ·simp[h];omega
 ·by_cases h2:b<a<;>simp[h,h2]<;>omega
theorem kht {a b:Int}:lx a b<0↔a<0∨a=0∧b<0:=by
 unfold lx
 by_cases h:a=0
 ·simp[h]
 ·simp[h]
theorem j2s {x y:kgn}:cfG x y<0↔wrap64 x.2.1.1<wrap64 y.2.1.1∨wrap64 x.2.1.1=wrap64 y.2.1.1∧(x.2.1.2<y.2.1.2∨x.2.1.2=y.2.1.2∧x.2.2.1<y.2.2.1):=by
 unfold cfG
 rw[kht,kht,kca,kca,kca,kr4,kr4]
theorem js1 {x y:jc1}:cfC x y<0↔x.1<y.1∨x.1=y.1∧wrap64 x.2.1<wrap64 y.2.1:=by
 unfold cfC
 rw[kht,kca,kca,kr4]
def okG (L:List kgn):Bool:=jz4 cfG (sortC cfG L)
def okC (L:List jc1):Bool:=jz4 cfC (sortC cfC L)
theorem kq6:SWO (ltOf cfG) where
 irrefl x:=by unfold ltOf;rw[decide_eq_false_iff_not,j2s];omega
 trans x y z h k:=by
  unfold ltOf at *
  rw[decide_eq_true_eq,j2s] at *
  omega
 ntrans x y z h k:=by
  unfold ltOf at *
  rw[decide_eq_false_iff_not,j2s] at *
  omega
theorem kq7:SWO (ltOf cfC) where
 irrefl x:=by unfold ltOf;rw[decide_eq_false_iff_not,js1];omega
 trans x y z h k:=by
  unfold ltOf at *
  rw[decide_eq_true_eq,js1] at *
  omega
 ntrans x y z h k:=by
  unfold ltOf at *
  rw[decide_eq_false_iff_not,js1] at *
  omega
theorem j64 {α:Type} {cf:α→α→Int} (hO:SWO (ltOf cf)):∀ {l:List α},jz4 cf l=true→l.Pairwise fun a b=>cf a b<0
 | [],_=>List.Pairwise.nil
 | [x],_=>List.pairwise_singleton _ _
 | x::y::l,h=>by
   simp only[jz4,Bool.and_eq_true,decide_eq_true_eq] at h
   have ih:=j64 hO (l:=y::l) (by simp only[jz4,Bool.and_eq_true];exact h.2)
   refine List.pairwise_cons.2 ⟨fun a ha=>?_,ih⟩
   rcases List.mem_cons.1 ha with rfl | ha
   ·exact h.1
   ·have:=(List.pairwise_cons.1 ih).1 a ha
    have:=hO.trans x y a (by unfold ltOf;exact decide_eq_true h.1) (by unfold ltOf;exact decide_eq_true this)
    unfold ltOf at this
    exact of_decide_eq_true this
theorem jx0 {α:Type} {cf:α→α→Int} (hO:SWO (ltOf cf)) {L:List α} (h:jz4 cf (sortC cf L)=true) (x:α) (hx:x∈L) (y:α) (hy:y∈L) (h1:¬cf x y<0) (h2:¬cf y x<0):x=y:=by
 have hp:=j64 hO h
 have hx:=(jea cf L).symm.subset hx
 have hy:=(jea cf L).symm.subset hy
 obtain⟨i,hi,rfl⟩:=List.getElem_of_mem hx
 obtain⟨j,hj,rfl⟩:=List.getElem_of_mem hy
 rw[List.pairwise_iff_getElem] at hp
 rcases Nat.lt_trichotomy i j with h | h | h
 ·exact absurd (hp i j hi hj h) h1
 ·subst h;rfl
 ·exact absurd (hp j i hj hi h) h2
theorem eqG (L:List kgn) (h:okG L=true) (x:kgn) (hx:x∈L) (y:kgn) (hy:y∈L) (h1:¬cfG x y<0) (h2:¬cfG y x<0):x=y:=jx0 kq6 h x hx y hy h1 h2
theorem eqC (L:List jc1) (h:okC L=true) (x:jc1) (hx:x∈L) (y:jc1) (hy:y∈L) (h1:¬cfC x y<0) (h2:¬cfC y x<0):x=y:=jx0 kq7 h x hx y hy h1 h2
theorem j4j {α:Type} {cf:α→α→Int}:∀ {l:List α},(l.Pairwise fun a b=>cf a b<0)→jz4 cf l=true
 | [],_=>rfl
 | x::l,h=>by
   obtain⟨h1,h2⟩:=List.pairwise_cons.1 h
   simp only[jz4,Bool.and_eq_true]
   refine⟨?_,j4j h2⟩
   cases l with
   | nil=>rfl
   | cons y l=>exact decide_eq_true (h1 y (List.mem_cons_self ..))
end X
end Go.Vm
