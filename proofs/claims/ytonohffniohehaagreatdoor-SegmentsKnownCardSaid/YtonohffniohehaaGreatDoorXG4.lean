/-
  Representations: how the state of a loop, or a function's results, stand for plain data.
  Representations: plain data laid into the extraction's state; the slots of a loop's state.
  Several values at once; the places of a loop's state.
-/
import Derived.Test.YtonohffniohehaaGreatDoorXG3
set_option linter.unusedSimpArgs false
set_option linter.unusedVariables false
set_option linter.unusedSectionVars false
set_option linter.unnecessarySimpa false
namespace Go.Vm
namespace X
open W
variable {B:Base} {ro:Nat} {e:Env} {c:Cnv} {S:St} {tm:Tr AV} {H:Tr Blk} {nx:Nat} {ν:Nm} {F:jaj} {M R:List Ent}
inductive Rep where
 | d (t:Ty)
 | own (t:Ty)
 | ownc (t:Ty)
 | ownx (t:Ty)
 | p (a b:Rep)
 | u
 | err
 | fn (f:FuncId)
 | nl
 | dn (t:Ty)
 | aw (t:Ty)
 | sf (f:FuncId)
 | mp (k v:Ty)
 | dx (t:Ty)
@[reducible] def Rep.den:Rep→Type
  | .d t=>t.den
  | .own t=>List t.den
  | .ownc t=>List t.den×Nat
  | .ownx t=>List t.den
  | .p a b=>a.den×b.den
  | .u=>Unit
  | .err=>Bool
  | .fn _=>Unit
  | .nl=>Unit
  | .dn t=>List t.den
  | .aw t=>List t.den×Option Nat
  | .sf _=>Unit
  | .mp k v=>List (k.den×v.den)
  | .dx t=>List t.den
def Rep.size:Rep→Nat
 | .d t=>t.size
 | .p a b=>a.size+b.size
 | .u=>0
 | _=>1
def Rep.agg:Rep→Bool
 | .d t=>t.agg
 | .p _ _ | .u=>true
 | _=>false
def j9d (F:jaj) (t:Ty) (L:List t.den) (cap:Option Nat) (v:AV) (E:List Ent):Prop:=∃x:Nat×AV,x.2=v∧jj9 (fun _=>x) F 0 (.arr t L cap) E
def j84 (F:jaj):(r:Rep)→r.den→List AV→List Ent→Prop
 | .d t,x,l,E=>t.ok=true∧jb0 F t x l∧E=[]
 | .own t,x,l,E=>∃v,l=[v]∧j9d F t x none v E
 | .ownc t,x,l,E=>∃v,l=[v]∧j9d F t x.1 (some x.2) v E
 | .ownx t,x,l,E=>∃v,l=[v]∧j9d F t x (some (List.length (α:=t.den) x)) v E
 | .p a b,x,l,E=>∃l1 l2 E1 E2,l=l1++l2∧E=E2++E1∧j84 F a x.1 l1 E1∧j84 F b x.2 l2 E2
 | .u,_,l,E=>l=[]∧E=[]
 | .err,x,l,E=>∃v,l=[v]∧SVR (fun _=>(0,.nils)) [] (.err x) v∧E=[]
 | .fn f,_,l,E=>l=[.fn (.func f) [] []]∧E=[]
 | .nl,_,l,E=>l=[.nils]∧E=[]
 | .aw t,x,l,E=>∃v,l=[v]∧j9d F t x.1 x.2 v E
 | .sf f,_,l,E=>(∃b,l=[.ptr b 0]∧(b,HB.cells [.fn (.func f) [] [.ptr b 0]])∈F)∧E=[]
 | .dx t,x,l,E=>∃v,l=[v]∧t.size≠0∧SlX F t.size (jd1 (jb0 F t)) x v∧E=[]
 | .mp k v,x,l,E=>∃b m,l=[.mp b]∧E=[⟨b,true,.mp m⟩]∧MpR F k v x m
 | .dn t,x,l,E=>∃v,l=[v]∧t.size≠0∧SlN F t.size (jd1 (jb0 F t)) x v∧E=[]
def js4 (F:jaj) (r:Rep) (x:r.den) (v:AV) (E:List Ent):Prop:=bif r.agg then ∃m,v=.agg m∧j84 F r x m E else j84 F r x [v] E
theorem jjg {F F':jaj} (hF:∀x∈F,x∈F'):∀(r:Rep) (x:r.den) (l:List AV) (E:List Ent),j84 F r x l E→j84 F' r x l E
 | .d t,x,l,E,⟨h1,h2,h3⟩=>⟨h1,ja2 hF t _ _ h2,h3⟩
 | .own t,x,l,E,⟨v,e,y,h1,h2⟩=>⟨v,e,y,h1,jgt hF h2⟩
 | .ownc t,x,l,E,⟨v,e,y,h1,h2⟩=>⟨v,e,y,h1,jgt hF h2⟩
 | .ownx t,x,l,E,⟨v,e,y,h1,h2⟩=>⟨v,e,y,h1,jgt hF h2⟩
 | .p a b,x,l,E,⟨l1,l2,E1,E2,e1,e2,h1,h2⟩=>⟨l1,l2,E1,E2,e1,e2,jjg hF a _ _ _ h1,jjg hF b _ _ _ h2⟩
 | .u,x,l,E,h=>h
 | .err,x,l,E,h=>h
 | .fn f,x,l,E,h=>h
 | .nl,x,l,E,h=>h
 | .sf f,x,l,E,⟨⟨b,h1,h2⟩,h3⟩=>⟨⟨b,h1,hF _ h2⟩,h3⟩
 | .aw t,x,l,E,⟨v,e,y,h1,h2⟩=>⟨v,e,y,h1,jgt hF h2⟩
 | .mp k v,x,l,E,⟨b,m,e1,e2,h⟩=>⟨b,m,e1,e2,jt3 hF h⟩
 | .dx t,x,l,E,⟨v,e,h0,h1,h2⟩=>⟨v,e,h0,j0s hF (fun _ _=>jbw (ja2 hF t)) h1,h2⟩
 | .dn t,x,l,E,⟨v,e,h0,h1,h2⟩=>⟨v,e,h0,j7j hF (fun _ _=>jbw (ja2 hF t)) h1,h2⟩
def jl0 (cap:Option Nat) (n:Nat):Bool:=match cap with
 | some c=>c.beq n
 | none=>false
def jsy (t:Ty) (mv:Mem):SV→Option (Option Bool×Mem×List t.den×Option Nat)
 | .own b=>match lkM mv b with
   | some (.arr t' L cap)=>if h:t'=t then some (none,jnc mv b,h▸L,cap) else none
   | _=>none
 | .view b o n cp z=>match lkM mv b with
   | some (.arr t' L cap)=>bif z.beq t.size then(if h:t'=t then some (some (o.beq 0),jnc mv b,(h▸L:List t.den).take n,cp) else none) else none
   | _=>none
 | .nils=>bif t.size.beq 0 then none else some (none,mv,[],some 0)
 | _=>none
def jxz:(r:Rep)→Mem→List SV→Option (Option Bool×Mem×r.den)
 | .d t,mv,l=>bif t.ok then(match kgb mv l with
   | some (mv,l)=>match jjh j9a t l with
     | some x=>some (none,mv,x)
     | none=>none
   | none=>none) else none
 | .own t,mv,l=>match l with
   | [s]=>match jsy t mv s with
     | some (c,mv,L,cap)=>some (c,mv,L)
     | none=>none
   | _=>none
 | .ownc t,mv,l=>match l with
   | [s]=>match jsy t mv s with
     | some (c,mv,L,cap)=>some (kgj c (some cap.isSome),mv,(L,cap.getD 0))
     | none=>none
   | _=>none
 | .ownx t,mv,l=>match l with
   | [s]=>match jsy t mv s with
     | some (c,mv,L,cap)=>some (kgj c (some (jl0 cap L.length)),mv,L)
     | none=>none
   | _=>none
 | .p a b,mv,l=>match jxz a mv (l.take a.size) with
   | some (c1,mv,x)=>match jxz b mv (l.drop a.size) with
     | some (c2,mv,y)=>some (kgj c1 c2,mv,(x,y))
     | none=>none
   | none=>none
 | .u,mv,l=>match l with
   | []=>some (none,mv,())
   | _=>none
 | .err,mv,l=>match l with
   | [.err b]=>some (none,mv,b)
   | [.nili]=>some (none,mv,true)
   | _=>none
 | .fn f,mv,l=>match l with
   | [.fn f' [] []]=>bif Nat.beq f' f then some (none,mv,()) else none
   | _=>none
 | .nl,mv,l=>match l with
   | [.nils]=>some (none,mv,())
   | _=>none
 | .dn _,_,_=>none
 | .sf _,_,_=>none
 | .dx t,mv,l=>match l with
   | [.own b]=>match lkM mv b with
     | some (.arr t' L cap)=>if h:t'=t then some (some (jl0 cap (List.length (α:=t'.den) L)),jnc mv b,h▸L) else none
     | _=>none
   | [.fzx t' L]=>if h:t'=t then some (none,mv,h▸L) else none
   | _=>none
 | .mp k v,mv,l=>match l with
   | [.mp b]=>match lkM mv b with
     | some (.mp k' v' L)=>if h1:k'=k then(if h2:v'=v then some (none,jnc mv b,h1▸(h2▸L:List (k'.den×v.den))) else none) else none
     | _=>none
   | _=>none
 | .aw t,mv,l=>match l with
   | [.own b]=>match jsy t mv (.own b) with
     | some (c,mv,L,cap)=>some (c,mv,(L,cap))
     | none=>none
   | _=>none
def ksj (r:Rep) (mv:Mem):SV→Option (Option Bool×Mem×r.den)
 | .agg l=>jxz r mv l
 | _=>none
def kpf (r:Rep) (mv:Mem) (s:SV):Option (Option Bool×Mem×r.den):=bif r.agg then ksj r mv s else jxz r mv [s]
def kgc (n:Nat) (t:Ty) (mv:Mem):SV→Option (Option Bool×Mem×List t.den)
 | .ag n' t' L=>bif n'.beq n&&t.ok then(if h:t'=t then some (none,mv,h▸L) else none) else none
 | .agg l=>jxz (.d (.arr n t)) mv l
 | _=>none
def koh (r:Rep) (mv:Mem) (s:SV):Option (Option Bool×Mem×r.den):=
 match r with
 | .d t=>match t with
   | .arr n t=>kgc n t mv s
   | t=>kpf (.d t) mv s
 | r=>kpf r mv s
def Cnv.park (c:Cnv) (E:List Ent):Cnv:={ c with P:=E++c.P }
theorem jfq {α:Type} (A E X:List α):(A++(E++X)).Perm (E++(A++X)):=by
 rw[←List.append_assoc,←List.append_assoc];exact List.Perm.append_right _ List.perm_append_comm
theorem kd4 (c:Cnv):c.park []=c:=rfl
theorem ConX.park (h:ConX B ro e c S tm H nx ν F M R) {b:Nat} {sb:SB} (hb:lkM S.mv b=some sb):∃E M',jj9 ν F b sb E∧(∀x∈E,x.w=true)∧ConX B ro e (c.park E) { S with mv:=jnc S.mv b } tm H nx ν F M' R:=by
 obtain⟨E,h1,h2,_,_,_,M',hp,hm,hw⟩:=h.own hb
 have hk:=h.hk.perm hp
 refine⟨E,M',h1,fun x hx=>(h2 x hx).1,hk.perm ?_,h.fr,h.ov,hm,hw,h.mc,h.fz,h.gl⟩
 have e1:(c.park E).O0=E++c.O0:=by simp[Cnv.O0,Cnv.park]
 rw[e1]
 have p1:=jfq R E c.O0
 have p2:=jfq c.Mc E (R++c.O0)
 have p3:=jfq M' E (c.Mc++(R++c.O0))
 exact((List.Perm.append_left M' ((List.Perm.append_left c.Mc p1).trans p2))).trans p3
theorem kfl {b:Nat} {t:Ty} {L:List t.den} {cap cap':Option Nat} {E:List Ent} (h:jj9 ν F b (.arr t L cap) E) (hc:∀m,cap'=some m→cap=some m):jj9 (fun _=>ν b) F 0 (.arr t L cap') E:=by
 have hd:∀ {sz:Option Nat},HdR (ν b) t.size L.length cap sz→HdR (ν b) t.size L.length cap' sz:=by
  intro sz h
  rcases h with⟨h1,h2,h3,h4⟩ | ⟨c',n,h1,h2,h3,h5,h6⟩
  ·refine .inl ⟨h1,h2,h3,?_⟩
   cases cap' with
   | none=>exact .inl rfl
   | some m=>
     have:=hc m rfl
     rcases h4 with h4 | h4
     ·rw[h4] at this;cases this
     ·rw[h4] at this;cases this;exact .inr rfl
  ·exact .inr ⟨c',n,h1,h2,h3,h5,fun m hm=>h6 m (hc m hm)⟩
 obtain⟨h0,h1⟩:=h
 refine⟨h0,h1.imp (fun⟨a,b⟩=>⟨hd a,b⟩) fun⟨w,m,e1,h2,h3,h4⟩=>⟨w,m,e1,hd h2,h3,h4⟩⟩
theorem jnb (h:ConX B ro e c S tm H nx ν F M R) {t:Ty} {s:SV} {cc:Option Bool} {mv:Mem} {L:List t.den} {cap:Option Nat} (hs:jsy t S.mv s=some (cc,mv,L,cap)) (hc:okc cc=true) {v:AV} (hv:SVR ν F s v):
  ∃E M',ConX B ro e (c.park E) { S with mv:=mv } tm H nx ν F M' R∧(∀x∈E,x.w=true)∧∀cap',(∀m,cap'=some m→cap=some m)→j9d F t L cap' v E:=by
 unfold jsy at hs
 split at hs<;>try (cases hs;done)
 ·rename_i b
  split at hs<;>try (cases hs;done)
  rename_i t' L' cap' hb
  split at hs<;>try (cases hs;done)
  rename_i ht
  subst ht
  cases hs
  obtain⟨E,M',h1,h2,h3⟩:=h.park hb
  exact⟨E,M',h3,h2,fun cp hcp=>⟨ν b,hv.1.symm,kfl h1 hcp⟩⟩
 ·rename_i b o n cp z
  split at hs<;>try (cases hs;done)
  rename_i t' L' cap' hb
  obtain⟨hz,hs2⟩:=jah hs
  rw[jaa,decide_eq_true_eq] at hz
  split at hs2<;>try (cases hs2;done)
  rename_i ht
  subst ht
  subst hz
  cases hs2
  simp only[okc,jaa,decide_eq_true_eq] at hc
  subst hc
  obtain⟨E,M',⟨h0,h1⟩,h2,h3⟩:=h.park hb
  refine⟨E,M',h3,h2,fun cq hcq=>?_⟩
  rcases hv with⟨rfl,rfl,hcap,hnil⟩ | ⟨c',rfl,k1,k2,len,cp',k3,k4,k5⟩
  ·rcases h1 with⟨hd,rfl⟩ | ⟨w,m,rfl,hd,hm,ha⟩
   ·refine⟨(0,.nils),rfl,h0,.inl ⟨.inl ⟨rfl,rfl,by simp,?_⟩,rfl⟩⟩
    cases cq with
    | none=>exact .inl rfl
    | some y=>
      have:=hcq y rfl
      rcases hcap with hcap | hcap<;>rw[hcap] at this<;>cases this
      exact .inr rfl
   ·rcases hd with⟨_,e1,_⟩ | ⟨_,_,e1,_⟩
    ·cases e1
    ·rw[hnil] at e1;cases e1
  ·rcases h1 with⟨hd,rfl⟩ | ⟨w,m,rfl,hd,hm,ha⟩
   ·rcases hd with⟨e1,_⟩ | ⟨_,_,_,e1,_⟩
    ·rw[k3] at e1;cases e1
    ·cases e1
   ·rcases hd with⟨e1,_⟩ | ⟨c2,n',e1,e2,hle,g3,g4⟩
    ·rw[k3] at e1;cases e1
    ·cases e2
     rw[k3] at e1
     cases e1
     have hnL:n≤L'.length:=by omega
     have hnz:n*t'.size≤L'.length*t'.size:=Nat.mul_le_mul_right _ hnL
     have hlt:(L'.take n).length=n:=by simp;omega
     refine⟨((ν b).1,.sl (ν b).1 0 n c' t'.size),by rw[Nat.zero_mul],h0,.inr ⟨w,m,rfl,.inr ⟨c',m.length,by rw[hlt],rfl,by rw[hlt];omega,fun y hy=>?_,fun y hy=>k1 y (hcq y hy)⟩,?_,ha⟩⟩
     ·refine⟨?_,by rw[hlt];exact k2 y hy⟩
      rcases k5 y hy with h7 | ⟨q,hq,h7⟩
      ·have:y*t'.size≤L'.length*t'.size:=Nat.mul_le_mul_right _ (by omega)
       omega
      ·have:y*t'.size≤q*t'.size:=Nat.mul_le_mul_right _ (by omega)
       have:=(g3 q hq).1
       omega
     ·have:=jgs (jak t') n hm
      rw[List.take_take,Nat.min_eq_left hnz] at this
      rw[hlt];exact this
 ·obtain⟨hz,h2⟩:=jj4 hs
  rw[jaa,decide_eq_false_iff_not] at hz
  cases h2
  simp only[SVR] at hv
  subst hv
  refine⟨[],M,h,fun _ h=>(by cases h),fun cp hcp=>⟨(0,.nils),rfl,hz,.inl ⟨.inl ⟨rfl,rfl,rfl,?_⟩,rfl⟩⟩⟩
  cases cp with
  | none=>exact .inl rfl
  | some m=>have:=hcp m rfl;cases this;exact .inr rfl
theorem jph:∀(r:Rep) {c:Cnv} {S:St} {F:jaj} {M R:List Ent} (h:ConX B ro e c S tm H nx ν F M R) {l:List SV} {cc:Option Bool} {mv:Mem} {x:r.den} (hs:jxz r S.mv l=some (cc,mv,x)) (hc:okc cc=true) {m:List AV} (hm:jb8 ν F l m),
  ∃E F' M' R',ConX B ro e (c.park E) { S with mv:=mv } tm H nx ν F' M' R'∧(∀x∈E,x.w=true)∧(∀x∈F,x∈F')∧j84 F' r x m E
 | .d t,c,S,F,M,R,h,l,cc,mv,x,hs,hc,m,hm=>by
   simp only[jxz] at hs
   obtain⟨ht,hs⟩:=jah hs
   split at hs<;>try (cases hs;done)
   rename_i mv' l' hf
   split at hs<;>try (cases hs;done)
   rename_i x' hx
   cases hs
   obtain⟨F',M',R',h1,h2,h3⟩:=jvr h l hf
   exact⟨[],F',M',R',h1,fun _ h=>(by cases h),h2,ht,jco jd7 t hx (h3 m hm),rfl⟩
 | .own t,c,S,F,M,R,h,l,cc,mv,x,hs,hc,m,hm=>by
   simp only[jxz] at hs
   split at hs<;>try (cases hs;done)
   split at hs<;>try (cases hs;done)
   rename_i s cq mv' L cap hs'
   cases hs
   obtain⟨v,_,rfl,hv,rfl⟩:=hm
   obtain⟨E,M',h1,h2,h3⟩:=jnb h hs' hc hv
   exact⟨E,F,M',R,h1,h2,fun _ h=>h,v,rfl,h3 none fun _ h=>(by cases h)⟩
 | .ownc t,c,S,F,M,R,h,l,cc,mv,x,hs,hc,m,hm=>by
   simp only[jxz] at hs
   split at hs<;>try (cases hs;done)
   split at hs<;>try (cases hs;done)
   rename_i s cq mv' L cap hs'
   cases hs
   rw[ju8] at hc
   obtain⟨k,rfl⟩:=Option.isSome_iff_exists.1 (show cap.isSome=true from hc.2)
   obtain⟨v,_,rfl,hv,rfl⟩:=hm
   obtain⟨E,M',h1,h2,h3⟩:=jnb h hs' hc.1 hv
   exact⟨E,F,M',R,h1,h2,fun _ h=>h,v,rfl,h3 _ fun _ h=>h⟩
 | .ownx t,c,S,F,M,R,h,l,cc,mv,x,hs,hc,m,hm=>by
   simp only[jxz] at hs
   split at hs<;>try (cases hs;done)
   split at hs<;>try (cases hs;done)
   rename_i s cq mv' L cap hs'
   cases hs
   rw[ju8] at hc
   obtain⟨hcq,hc⟩:=hc
   have hc:jl0 _ _=true:=hc
   unfold jl0 at hc
   split at hc<;>try (cases hc;done)
   rename_i k
   rw[jaa,decide_eq_true_eq] at hc
   subst hc
   obtain⟨v,_,rfl,hv,rfl⟩:=hm
   obtain⟨E,M',h1,h2,h3⟩:=jnb h hs' hcq hv
   exact⟨E,F,M',R,h1,h2,fun _ h=>h,v,rfl,h3 _ fun _ h=>h⟩
 | .p a b,c,S,F,M,R,h,l,cc,mv,x,hs,hc,m,hm=>by
   simp only[jxz] at hs
   split at hs<;>try (cases hs;done)
   rename_i c1 mv1 x1 h1
   split at hs<;>try (cases hs;done)
   rename_i c2 mv2 x2 h2
   cases hs
   rw[ju8] at hc
   obtain⟨E1,F1,M1,R1,k1,k2,k3,k4⟩:=jph a h h1 hc.1 (jdj a.size hm)
   obtain⟨E2,F2,M2,R2,j1,j2,j3,j4⟩:=jph b (S:={ S with mv:=mv1 }) k1 h2 hc.2 (jbr k3 _ _ (jc0 a.size hm))
   refine⟨E2++E1,F2,M2,R2,?_,fun x hx=>?_,fun x hx=>j3 x (k3 x hx),?_⟩
   ·have:(c.park E1).park E2=c.park (E2++E1):=by simp[Cnv.park]
    rw[←this];exact j1
   ·rcases List.mem_append.1 hx with hx | hx
    ·exact j2 x hx
    ·exact k2 x hx
   ·exact⟨m.take a.size,m.drop a.size,E1,E2,by rw[List.take_append_drop],rfl,jjg j3 a _ _ _ k4,j4⟩
 | .u,c,S,F,M,R,h,l,cc,mv,x,hs,hc,m,hm=>by
   simp only[jxz] at hs
   split at hs<;>try (cases hs;done)
   cases hs
   exact⟨[],F,M,R,h,fun _ h=>(by cases h),fun _ h=>h,hm,rfl⟩
 | .err,c,S,F,M,R,h,l,cc,mv,x,hs,hc,m,hm=>by
   simp only[jxz] at hs
   split at hs<;>try (cases hs;done)
   ·cases hs
    obtain⟨v,_,rfl,hv,rfl⟩:=hm
    exact⟨[],F,M,R,h,fun _ h=>(by cases h),fun _ h=>h,v,rfl,hv,rfl⟩
   ·cases hs
    obtain⟨v,_,rfl,hv,rfl⟩:=hm
    exact⟨[],F,M,R,h,fun _ h=>(by cases h),fun _ h=>h,v,rfl,.inl ⟨rfl,hv⟩,rfl⟩
 | .fn f,c,S,F,M,R,h,l,cc,mv,x,hs,hc,m,hm=>by
   simp only[jxz] at hs
   split at hs<;>try (cases hs;done)
   obtain⟨hf,hs⟩:=jah hs
   rw[jaa,decide_eq_true_eq] at hf
   subst hf
   cases hs
   obtain⟨v,_,rfl,⟨a',c',hv,h1,h2⟩,rfl⟩:=hm
   simp only[jb8] at h1 h2
   subst h1;subst h2
   exact⟨[],F,M,R,h,fun _ h=>(by cases h),fun _ h=>h,by rw[hv],rfl⟩
 | .nl,c,S,F,M,R,h,l,cc,mv,x,hs,hc,m,hm=>by
   simp only[jxz] at hs
   split at hs<;>try (cases hs;done)
   cases hs
   obtain⟨v,_,rfl,hv,rfl⟩:=hm
   have hv:v=AV.nils:=hv
   exact⟨[],F,M,R,h,fun _ h=>(by cases h),fun _ h=>h,by rw[hv],rfl⟩
 | .aw t,c,S,F,M,R,h,l,cc,mv,x,hs,hc,m,hm=>by
   simp only[jxz] at hs
   split at hs<;>try (cases hs;done)
   split at hs<;>try (cases hs;done)
   rename_i b cq mv' L cap hs'
   cases hs
   obtain⟨v,_,rfl,hv,rfl⟩:=hm
   obtain⟨E,M',h1,h2,h3⟩:=jnb h hs' hc hv
   exact⟨E,F,M',R,h1,h2,fun _ h=>h,v,rfl,h3 _ fun _ h=>h⟩
 | .dx t,c,S,F,M,R,h,l,cc,mv,x,hs,hc,m,hm=>by
   simp only[jxz] at hs
   split at hs<;>try (cases hs;done)
   ·split at hs<;>try (cases hs;done)
    rename_i b _ t' L cap hb
    split at hs<;>try (cases hs;done)
    rename_i h1
    subst h1
    cases hs
    obtain⟨u,_,rfl,hv,rfl⟩:=hm
    have hc:jl0 _ _=true:=hc
    unfold jl0 at hc
    split at hc<;>try (cases hc;done)
    rename_i k
    rw[jaa,decide_eq_true_eq] at hc
    subst hc
    obtain⟨E,hE,_,_,⟨M1,hM⟩,_⟩:=h.own hb
    refine⟨[],_,M1,_,hM,fun _ h=>(by cases h),fun x hx=>List.mem_append.2 (.inr hx),u,rfl,hE.1,?_,rfl⟩
    show SlX (jep E++F) t'.size (jd1 (jb0 (jep E++F) t')) L u
    obtain⟨rfl,_⟩:=hv
    obtain⟨h0,hE⟩:=hE
    rcases hE with⟨hd,rfl⟩ | ⟨w,mm,rfl,hd,hmm,ha⟩
    ·rcases hd with⟨e1,_,e2,_⟩ | ⟨_,_,_,e1,_⟩
     ·exact .inl ⟨List.eq_nil_of_length_eq_zero e2,e1⟩
     ·cases e1
    ·rcases hd with⟨_,e1,_⟩ | ⟨c',n',e1,e2,hle,g3,g4⟩
     ·cases e1
     ·cases e2
      have:=g4 _ rfl
      subst this
      refine .inr ⟨_,0,mm,e1,List.mem_append.2 (.inl (List.mem_singleton.2 rfl)),by omega,?_⟩
      rw[List.drop_zero]
      exact jbw (ja2 (fun y hy=>List.mem_append.2 (.inr hy)) _) hmm
   ·split at hs<;>try (cases hs;done)
    rename_i h1
    subst h1
    cases hs
    obtain⟨u,_,rfl,hv,rfl⟩:=hm
    exact⟨[],F,M,R,h,fun _ h=>(by cases h),fun _ h=>h,u,rfl,hv.1,hv.2,rfl⟩
 | .mp k v,c,S,F,M,R,h,l,cc,mv,x,hs,hc,m,hm=>by
   simp only[jxz] at hs
   split at hs<;>try (cases hs;done)
   split at hs<;>try (cases hs;done)
   rename_i b _ k' v' L hb
   split at hs<;>try (cases hs;done)
   rename_i h1
   split at hs<;>try (cases hs;done)
   rename_i h2
   subst h1;subst h2
   cases hs
   obtain⟨u,_,rfl,hv,rfl⟩:=hm
   simp only[SVR] at hv
   subst hv
   obtain⟨E,M',⟨w,mm,rfl,hmm⟩,hw,hC⟩:=h.park hb
   have ew:=hw _ (List.mem_singleton.2 rfl)
   simp only at ew
   subst ew
   exact⟨_,F,M',R,hC,hw,fun _ h=>h,_,mm,rfl,rfl,hmm⟩
 | .dn t,c,S,F,M,R,h,l,cc,mv,x,hs,hc,m,hm=>by cases hs
 | .sf f,c,S,F,M,R,h,l,cc,mv,x,hs,hc,m,hm=>by cases hs
end X
end Go.Vm
namespace Go.Vm
namespace X
open W
variable {B:Base} {ro:Nat} {e:Env} {c:Cnv} {S:St} {tm:Tr AV} {H:Tr Blk} {nx:Nat} {ν:Nm} {F:jaj} {M R:List Ent}
def jxt (t:Ty) (L:List t.den) (cap:Option Nat) (e:Env) (S:St):Option (List SV×St):=bif fresh e S then some ([.own S.nc],jzf S (.arr t L cap)) else none
def kf6:(r:Rep)→r.den→Env→St→Option (List SV×St)
 | .d t,x,e,S=>some (jlr t x,S)
 | .own t,x,e,S=>jxt t x none e S
 | .ownc t,x,e,S=>jxt t x.1 (some x.2) e S
 | .ownx t,x,e,S=>jxt t x (some (List.length (α:=t.den) x)) e S
 | .p a b,x,e,S=>match kf6 a x.1 e S with
   | some (l1,S1)=>match kf6 b x.2 { e with ov:=l1++e.ov } S1 with
     | some (l2,S2)=>some (l1++l2,S2)
     | none=>none
   | none=>none
 | .u,_,e,S=>some ([],S)
 | .err,x,e,S=>some ([.err x],S)
 | .fn f,_,e,S=>some ([.fn f [] []],S)
 | .nl,_,e,S=>some ([.nils],S)
 | .aw t,x,e,S=>jxt t x.1 x.2 e S
 | .dn t,x,e,S=>some ([.fzn t x],S)
 | .sf f,_,e,S=>some ([.sptr f],S)
 | .dx t,x,e,S=>some ([.fzx t x],S)
 | .mp k v,x,e,S=>bif fresh e S then some ([.mp S.nc],jzf S (.mp k v x)) else none
def kpd (r:Rep) (x:r.den) (e:Env) (S:St):Option (SV×St):=match r with
 | .d t=>some (kei t x,S)
 | r=>match kf6 r x e S with
   | some (l,S')=>bif r.agg then some (.agg l,S') else match l with
     | [s]=>some (s,S')
     | _=>none
   | none=>none
theorem ConX.reP (h:ConX B ro e c S tm H nx ν F M R) {P':List Ent} (hp:P'.Perm c.P):ConX B ro e { c with P:=P' } S tm H nx ν F M R:=
 ⟨h.hk.perm (List.Perm.append_left _ (List.Perm.append_left _ (List.Perm.append_left _ (List.Perm.append_right _ hp)))),h.fr,h.ov,h.mv,h.wr,h.mc,h.fz,h.gl⟩
theorem jks:∀ {l l':List SV} {m m':List AV},l.length=m.length→jb8 ν F (l++l') (m++m')→jb8 ν F l m∧jb8 ν F l' m'
 | [],l',[],m',_,h=>⟨rfl,h⟩
 | a::l,l',b::m,m',hl,⟨v,m1,e1,h1,h2⟩=>by
   simp only[List.cons_append,List.cons.injEq] at e1
   obtain⟨rfl,rfl⟩:=e1
   obtain⟨k1,k2⟩:=jks (by simpa using hl) h2
   exact⟨⟨b,m,rfl,h1,k1⟩,k2⟩
theorem j05 {E:List Ent} (h:ConX B ro e (c.park E) S tm H nx ν F M R) {b:Nat} {sb:SB} (hb:jj9 ν F b sb E) (hw:∀x∈E,x.w=true):ConX B ro e c { S with mv:=(b,sb)::S.mv } tm H nx ν F (E++M) R:=by
 refine⟨?_,h.fr,h.ov,⟨E,M,rfl,hb,h.mv⟩,fun y hy=>?_,h.mc,h.fz,h.gl⟩
 ·refine h.hk.perm ?_
  have e1:(c.park E).O0=E++c.O0:=by simp[Cnv.O0,Cnv.park]
  rw[e1]
  have p1:=jfq R E c.O0
  have p2:=jfq c.Mc E (R++c.O0)
  have p3:=jfq M E (c.Mc++(R++c.O0))
  rw[List.append_assoc]
  exact((List.Perm.append_left M ((List.Perm.append_left c.Mc p1).trans p2)).trans p3).symm
 ·rcases List.mem_append.1 hy with h1 | h1
  ·exact hw y h1
  ·exact h.wr y h1
theorem j7w {E:List Ent} (h:ConX B ro e (c.park E) S tm H nx ν F M R) {t:Ty} {L:List t.den} {cap:Option Nat} {v:AV} (hE:j9d F t L cap v E) (hw:∀x∈E,x.w=true) (hf:fresh e S=true):
  ∃ν' M',ConX B ro e c (jzf S (.arr t L cap)) tm H nx ν' F M' R∧SVR ν' F (.own S.nc) v∧∀b,b≠S.nc→ν' b=ν b:=by
 obtain⟨x,rfl,hx⟩:=hE
 have h':=h.name hf x
 refine⟨ν.upd S.nc x,E++M,⟨?_,h'.fr,h'.ov,⟨E,M,rfl,?_,h'.mv⟩,fun y hy=>?_,h'.mc,h'.fz,h'.gl⟩,?_,fun b hb=>jhi (by rw[jaa];simpa using hb)⟩
 ·refine h.hk.perm ?_
  have e1:(c.park E).O0=E++c.O0:=by simp[Cnv.O0,Cnv.park]
  rw[e1]
  have p1:=jfq R E c.O0
  have p2:=jfq c.Mc E (R++c.O0)
  have p3:=jfq M E (c.Mc++(R++c.O0))
  rw[List.append_assoc]
  exact((List.Perm.append_left M ((List.Perm.append_left c.Mc p1).trans p2)).trans p3).symm
 ·show jj9 _ F S.nc _ E
  obtain⟨h0,h1⟩:=hx
  exact⟨h0,by rw[jbu];exact h1⟩
 ·rcases List.mem_append.1 hy with h1 | h1
  ·exact hw y h1
  ·exact h.wr y h1
 ·obtain⟨h0,h1⟩:=hx
  refine⟨by rw[jbu],?_⟩
  rcases h1 with⟨hd,_⟩ | ⟨w,m,_,hd,_⟩
  ·rcases hd with⟨h2,_⟩ | ⟨_,_,h2,_⟩<;>rw[h2]<;>rfl
  ·rcases hd with⟨h2,_⟩ | ⟨_,_,h2,_⟩<;>rw[h2]<;>rfl
theorem jq3 {E:List Ent} (h:ConX B ro e (c.park E) S tm H nx ν F M R) {t:Ty} {L:List t.den} {cap:Option Nat} {v:AV} (hE:j9d F t L cap v E) (hw:∀x∈E,x.w=true) {l:List SV} {S':St} (hs:jxt t L cap e S=some (l,S')):
  ∃ν' M',ConX B ro e c S' tm H nx ν' F M' R∧jb8 ν' F l [v]∧(∀b,b<S.nc→ν' b=ν b)∧S'.fr=S.fr∧S.nc≤S'.nc:=by
 unfold jxt at hs
 obtain⟨hf,h2⟩:=jah hs
 cases h2
 obtain⟨ν',M',h1,h2,h3⟩:=j7w h hE hw hf
 exact⟨ν',M',h1,⟨v,[],rfl,h2,rfl⟩,fun b hb=>h3 b (by omega),rfl,Nat.le_succ _⟩
theorem jvp:∀(r:Rep) {e:Env} {c:Cnv} {S:St} {ν:Nm} {M:List Ent} {E:List Ent} (h:ConX B ro e (c.park E) S tm H nx ν F M R) {x:r.den} {m:List AV} (hr:j84 F r x m E) (hw:∀x∈E,x.w=true) {l:List SV} {S':St} (hs:kf6 r x e S=some (l,S')),
  ∃ν' M',ConX B ro e c S' tm H nx ν' F M' R∧jb8 ν' F l m∧(∀b,b<S.nc→ν' b=ν b)∧S'.fr=S.fr∧S.nc≤S'.nc
 | .d t,e,c,S,ν,M,E,h,x,m,⟨ht,hr,hE⟩,hw,l,S',hs=>by
   subst hE
   cases hs
   exact⟨ν,M,h,jgo t ht x m hr,fun _ _=>rfl,rfl,Nat.le_refl _⟩
 | .own t,e,c,S,ν,M,E,h,x,m,⟨v,hm,hr⟩,hw,l,S',hs=>by subst hm;exact jq3 h hr hw hs
 | .ownc t,e,c,S,ν,M,E,h,x,m,⟨v,hm,hr⟩,hw,l,S',hs=>by subst hm;exact jq3 h hr hw hs
 | .ownx t,e,c,S,ν,M,E,h,x,m,⟨v,hm,hr⟩,hw,l,S',hs=>by subst hm;exact jq3 h hr hw hs
 | .p a b,e,c,S,ν,M,E,h,x,m,⟨m1,m2,E1,E2,e1,e2,h1,h2⟩,hw,l,S',hs=>by
   subst e1;subst e2
   simp only[kf6] at hs
   split at hs<;>try (cases hs;done)
   rename_i l1 S1 hs1
   split at hs<;>try (cases hs;done)
   rename_i l2 S2 hs2
   cases hs
   have h':ConX B ro e ((c.park E2).park E1) S tm H nx ν F M R:=by
    have:=h.reP (P':=E1++(E2++c.P)) (by
     show(E1++(E2++c.P)).Perm ((E2++E1)++c.P)
     rw[←List.append_assoc]
     exact List.Perm.append_right _ List.perm_append_comm)
    exact this
   obtain⟨ν1,M1,k1,k2,k3,k4,k5⟩:=jvp a h' h1 (fun x hx=>hw x (by simp[hx])) hs1
   have h'':ConX B ro { e with ov:=l1++e.ov } (({ c with oa:=m1++c.oa }:Cnv).park E2) S1 tm H nx ν1 F M1 R:=
    ⟨k1.hk,k1.fr,jbs k2 k1.ov,k1.mv,k1.wr,k1.mc,k1.fz,k1.gl⟩
   obtain⟨ν2,M2,j1,j2,j3,j4,j5⟩:=jvp b h'' h2 (fun x hx=>hw x (by simp[hx])) hs2
   obtain⟨q1,q2⟩:=jks (jb5 k2) j1.ov
   exact⟨ν2,M2,⟨j1.hk,j1.fr,q2,j1.mv,j1.wr,j1.mc,j1.fz,j1.gl⟩,jbs q1 j2,fun b hb=>by rw[j3 b (by omega),k3 b hb],j4.trans k4,by omega⟩
 | .dx t,e,c,S,ν,M,E,h,x,m,⟨v,hm,h0,hr,hE⟩,hw,l,S',hs=>by
   subst hm;subst hE
   cases hs
   exact⟨ν,M,h,⟨v,[],rfl,⟨h0,hr⟩,rfl⟩,fun _ _=>rfl,rfl,Nat.le_refl _⟩
 | .mp k v,e,c,S,ν,M,E,h,x,m,⟨b,mm,hm,hE,hr⟩,hw,l,S',hs=>by
   subst hm;subst hE
   simp only[kf6] at hs
   obtain⟨hf,h2⟩:=jah hs
   cases h2
   have h':=h.name hf (b,.nils)
   have hC:=j05 (E:=[⟨b,true,.mp mm⟩]) (b:=S.nc) (sb:=.mp k v x) h' ⟨true,mm,by rw[jbu],hr⟩ hw
   exact⟨_,_,⟨hC.hk,hC.fr,hC.ov,hC.mv,hC.wr,hC.mc,hC.fz,hC.gl⟩,⟨_,[],rfl,by simp only[SVR,jbu],rfl⟩,fun b hb=>jhi (by rw[jaa];simp;omega),rfl,Nat.le_succ _⟩
 | .u,e,c,S,ν,M,E,h,x,m,⟨hm,hE⟩,hw,l,S',hs=>by
   subst hm;subst hE
   cases hs
   exact⟨ν,M,h,rfl,fun _ _=>rfl,rfl,Nat.le_refl _⟩
 | .err,e,c,S,ν,M,E,h,x,m,⟨v,hm,hv,hE⟩,hw,l,S',hs=>by
   subst hm;subst hE
   cases hs
   exact⟨ν,M,h,⟨v,[],rfl,hv,rfl⟩,fun _ _=>rfl,rfl,Nat.le_refl _⟩
 | .fn f,e,c,S,ν,M,E,h,x,m,⟨hm,hE⟩,hw,l,S',hs=>by
   subst hm;subst hE
   cases hs
   exact⟨ν,M,h,⟨_,[],rfl,⟨[],[],rfl,rfl,rfl⟩,rfl⟩,fun _ _=>rfl,rfl,Nat.le_refl _⟩
 | .aw t,e,c,S,ν,M,E,h,x,m,⟨v,hm,hr⟩,hw,l,S',hs=>by subst hm;exact jq3 h hr hw hs
 | .nl,e,c,S,ν,M,E,h,x,m,⟨hm,hE⟩,hw,l,S',hs=>by
   subst hm;subst hE
   cases hs
   exact⟨ν,M,h,⟨_,[],rfl,rfl,rfl⟩,fun _ _=>rfl,rfl,Nat.le_refl _⟩
 | .sf f,e,c,S,ν,M,E,h,x,m,⟨⟨b,hm,hb⟩,hE⟩,hw,l,S',hs=>by
   subst hm;subst hE
   cases hs
   exact⟨ν,M,h,⟨_,[],rfl,⟨b,rfl,hb⟩,rfl⟩,fun _ _=>rfl,rfl,Nat.le_refl _⟩
 | .dn t,e,c,S,ν,M,E,h,x,m,⟨v,hm,h0,hv,hE⟩,hw,l,S',hs=>by
   subst hm;subst hE
   cases hs
   exact⟨ν,M,h,⟨v,[],rfl,⟨h0,hv⟩,rfl⟩,fun _ _=>rfl,rfl,Nat.le_refl _⟩
theorem kbk {r:Rep} {E:List Ent} (h:ConX B ro e (c.park E) S tm H nx ν F M R) {x:r.den} {v:AV} (hr:js4 F r x v E) (hw:∀x∈E,x.w=true) {s:SV} {S':St} (hs:kpd r x e S=some (s,S')):
  ∃ν' M',ConX B ro e c S' tm H nx ν' F M' R∧SVR ν' F s v∧(∀b,b<S.nc→ν' b=ν b)∧S'.fr=S.fr∧S.nc≤S'.nc:=by
 have gen:(match kf6 r x e S with
  | some (l,S')=>bif r.agg then some (SV.agg l,S') else match l with
    | [s]=>some (s,S')
    | _=>none
  | none=>none)=some (s,S')→∃ν' M',ConX B ro e c S' tm H nx ν' F M' R∧SVR ν' F s v∧(∀b,b<S.nc→ν' b=ν b)∧S'.fr=S.fr∧S.nc≤S'.nc:=by
  intro hs
  split at hs<;>try (cases hs;done)
  rename_i l S1 hl
  unfold js4 at hr
  cases ha:r.agg with
  | true=>
    rw[ha] at hs hr
    cases hs
    obtain⟨m,rfl,hm⟩:=hr
    obtain⟨ν',M',h1,h2,h3⟩:=jvp r h hm hw hl
    exact⟨ν',M',h1,⟨m,rfl,h2⟩,h3⟩
  | false=>
    rw[ha] at hs hr
    simp only[cond_false] at hs hr
    split at hs<;>cases hs
    obtain⟨ν',M',h1,h2,h3⟩:=jvp r h hr hw hl
    obtain⟨w,_,e1,h4,e2⟩:=h2
    subst e2
    cases e1
    exact⟨ν',M',h1,h4,h3⟩
 cases r with
 | d t=>
   simp only[kpd] at hs
   cases hs
   have:t.ok=true∧Rel F t x v∧E=[]:=by
    unfold js4 at hr
    simp only[Rep.agg] at hr
    unfold Rel
    cases ha:t.agg with
    | true=>
      rw[ha] at hr
      obtain⟨m,rfl,h1,h2,h3⟩:=hr
      exact⟨h1,⟨m,rfl,h2⟩,h3⟩
    | false=>
      rw[ha] at hr
      exact hr
   obtain⟨h1,h2,rfl⟩:=this
   exact⟨ν,M,h,jvo h1 h2,fun _ _=>rfl,rfl,Nat.le_refl _⟩
 | own t=>exact gen hs
 | ownc t=>exact gen hs
 | ownx t=>exact gen hs
 | p a b=>exact gen hs
 | u=>exact gen hs
 | err=>exact gen hs
 | fn f=>exact gen hs
 | nl=>exact gen hs
 | aw t=>exact gen hs
 | dn t=>exact gen hs
 | sf t=>exact gen hs
 | mp k v=>exact gen hs
 | dx t=>exact gen hs
theorem jdh {r:Rep} (h:ConX B ro e c S tm H nx ν F M R) {s:SV} {cc:Option Bool} {mv:Mem} {x:r.den} (hs:kpf r S.mv s=some (cc,mv,x)) (hc:okc cc=true) {v:AV} (hv:SVR ν F s v):
  ∃E F' M' R',ConX B ro e (c.park E) { S with mv:=mv } tm H nx ν F' M' R'∧(∀x∈E,x.w=true)∧(∀x∈F,x∈F')∧js4 F' r x v E:=by
 unfold kpf at hs
 unfold js4
 cases ha:r.agg with
 | true=>
   rw[ha] at hs
   simp only[cond_true] at hs
   unfold ksj at hs
   split at hs<;>try (cases hs;done)
   obtain⟨m,e1,hm⟩:=hv
   obtain⟨E,F',M',R',h1,h2,h3,h4⟩:=jph r h hs hc hm
   exact⟨E,F',M',R',h1,h2,h3,m,e1,h4⟩
 | false=>
   rw[ha] at hs
   simp only[cond_false] at hs
   exact jph r h hs hc ⟨v,[],rfl,hv,rfl⟩
theorem j5a {r:Rep} (h:ConX B ro e c S tm H nx ν F M R) {s:SV} {cc:Option Bool} {mv:Mem} {x:r.den} (hs:koh r S.mv s=some (cc,mv,x)) (hc:okc cc=true) {v:AV} (hv:SVR ν F s v):
  ∃E F' M' R',ConX B ro e (c.park E) { S with mv:=mv } tm H nx ν F' M' R'∧(∀x∈E,x.w=true)∧(∀x∈F,x∈F')∧js4 F' r x v E:=by
 cases r with
 | d t=>
   cases t with
   | arr n t=>
     simp only[koh] at hs
     unfold kgc at hs
     split at hs<;>try (cases hs;done)
     ·rename_i n' t' L
      obtain⟨hn,hs⟩:=jah hs
      simp only[Bool.and_eq_true,jaa,decide_eq_true_eq] at hn
      obtain⟨rfl,ht⟩:=hn
      split at hs<;>try (cases hs;done)
      rename_i et
      subst et
      cases hs
      obtain⟨m,e1,hm⟩:=hv
      exact⟨[],F,M,R,h,fun _ h=>(by cases h),fun _ h=>h,m,e1,ht,hm,rfl⟩
     ·obtain⟨m,e1,hm⟩:=hv
      obtain⟨E,F',M',R',h1,h2,h3,h4⟩:=jph (.d (.arr n t)) h hs hc hm
      exact⟨E,F',M',R',h1,h2,h3,m,e1,h4⟩
   | int k=>exact jdh h hs hc hv
   | bool=>exact jdh h hs hc hv
   | str=>exact jdh h hs hc hv
   | unit=>exact jdh h hs hc hv
   | prod a b=>exact jdh h hs hc hv
   | sl t=>exact jdh h hs hc hv
   | slx t=>exact jdh h hs hc hv
 | own t=>exact jdh h hs hc hv
 | ownc t=>exact jdh h hs hc hv
 | ownx t=>exact jdh h hs hc hv
 | p a b=>exact jdh h hs hc hv
 | u=>exact jdh h hs hc hv
 | err=>exact jdh h hs hc hv
 | fn f=>exact jdh h hs hc hv
 | nl=>exact jdh h hs hc hv
 | aw t=>exact jdh h hs hc hv
 | dn t=>exact jdh h hs hc hv
 | sf t=>exact jdh h hs hc hv
 | mp k v=>exact jdh h hs hc hv
 | dx t=>exact jdh h hs hc hv
end X
end Go.Vm
namespace Go.Vm
namespace X
open W
variable {B:Base} {ro:Nat} {e:Env} {c:Cnv} {S:St} {tm:Tr AV} {H:Tr Blk} {nx:Nat} {ν:Nm} {F:jaj} {M R:List Ent}
@[reducible] def jl4:List Rep→Type
  | []=>Unit
  | [r]=>r.den
  | r::r'::l=>r.den×jl4 (r'::l)
def jni (F:jaj):(l:List Rep)→jl4 l→List AV→List Ent→Prop
 | [],_,vs,E=>vs=[]∧E=[]
 | [r],x,vs,E=>∃v,vs=[v]∧js4 F r x v E
 | r::r'::l,x,vs,E=>∃v vs' E1 E2,vs=v::vs'∧E=E2++E1∧js4 F r x.1 v E1∧jni F (r'::l) x.2 vs' E2
def jtg:(l:List Rep)→Mem→List SV→Option (Option Bool×Mem×jl4 l)
 | [],mv,ss=>match ss with
   | []=>some (none,mv,())
   | _=>none
 | [r],mv,ss=>match ss with
   | [s]=>koh r mv s
   | _=>none
 | r::r'::l,mv,ss=>match ss with
   | s::ss=>match koh r mv s with
     | some (c1,mv,x)=>match jtg (r'::l) mv ss with
       | some (c2,mv,y)=>some (kgj c1 c2,mv,(x,y))
       | none=>none
     | none=>none
   | _=>none
def jvn:(l:List Rep)→jl4 l→Env→St→Option (List SV×St)
 | [],_,e,S=>some ([],S)
 | [r],x,e,S=>match kpd r x e S with
   | some (s,S)=>some ([s],S)
   | none=>none
 | r::r'::l,x,e,S=>match kpd r x.1 e S with
   | some (s,S1)=>match jvn (r'::l) x.2 { e with ov:=s::e.ov } S1 with
     | some (ss,S2)=>some (s::ss,S2)
     | none=>none
   | none=>none
theorem jra {F F':jaj} (hF:∀x∈F,x∈F') {r:Rep} {x:r.den} {v:AV} {E:List Ent} (h:js4 F r x v E):js4 F' r x v E:=by
 unfold js4 at h ⊢
 cases ha:r.agg with
 | true=>
   rw[ha] at h
   obtain⟨m,e1,h⟩:=h
   exact⟨m,e1,jjg hF r _ _ _ h⟩
 | false=>
   rw[ha] at h
   exact jjg hF r _ _ _ h
theorem jtu:∀(l:List Rep) {c:Cnv} {S:St} {F:jaj} {M R:List Ent} (h:ConX B ro e c S tm H nx ν F M R) {ss:List SV} {cc:Option Bool} {mv:Mem} {x:jl4 l} (hs:jtg l S.mv ss=some (cc,mv,x)) (hc:okc cc=true) {vs:List AV} (hv:jb8 ν F ss vs),
  ∃E F' M' R',ConX B ro e (c.park E) { S with mv:=mv } tm H nx ν F' M' R'∧(∀x∈E,x.w=true)∧(∀x∈F,x∈F')∧jni F' l x vs E
 | [],c,S,F,M,R,h,ss,cc,mv,x,hs,hc,vs,hv=>by
   simp only[jtg] at hs
   split at hs<;>cases hs
   exact⟨[],F,M,R,h,fun _ h=>(by cases h),fun _ h=>h,hv,rfl⟩
 | [r],c,S,F,M,R,h,ss,cc,mv,x,hs,hc,vs,hv=>by
   simp only[jtg] at hs
   split at hs<;>try (cases hs;done)
   obtain⟨v,_,rfl,h1,rfl⟩:=hv
   obtain⟨E,F',M',R',k1,k2,k3,k4⟩:=j5a h hs hc h1
   exact⟨E,F',M',R',k1,k2,k3,v,rfl,k4⟩
 | r::r'::l,c,S,F,M,R,h,ss,cc,mv,x,hs,hc,vs,hv=>by
   simp only[jtg] at hs
   split at hs<;>try (cases hs;done)
   rename_i s ss
   split at hs<;>try (cases hs;done)
   rename_i c1 mv1 x1 h1
   split at hs<;>try (cases hs;done)
   rename_i c2 mv2 x2 h2
   cases hs
   rw[ju8] at hc
   obtain⟨v,vs',rfl,v1,v2⟩:=hv
   obtain⟨E1,F1,M1,R1,k1,k2,k3,k4⟩:=j5a h h1 hc.1 v1
   obtain⟨E2,F2,M2,R2,j1,j2,j3,j4⟩:=jtu (r'::l) (S:={ S with mv:=mv1 }) k1 h2 hc.2 (jbr k3 _ _ v2)
   refine⟨E2++E1,F2,M2,R2,?_,fun x hx=>?_,fun x hx=>j3 x (k3 x hx),v,vs',E1,E2,rfl,rfl,jra j3 k4,j4⟩
   ·have:(c.park E1).park E2=c.park (E2++E1):=by simp[Cnv.park]
    rw[←this];exact j1
   ·rcases List.mem_append.1 hx with hx | hx
    ·exact j2 x hx
    ·exact k2 x hx
theorem jq2:∀(l:List Rep) {e:Env} {c:Cnv} {S:St} {ν:Nm} {M:List Ent} {E:List Ent} (h:ConX B ro e (c.park E) S tm H nx ν F M R) {x:jl4 l} {vs:List AV} (hr:jni F l x vs E) (hw:∀x∈E,x.w=true) {ss:List SV} {S':St} (hs:jvn l x e S=some (ss,S')),
  ∃ν' M',ConX B ro e c S' tm H nx ν' F M' R∧jb8 ν' F ss vs∧(∀b,b<S.nc→ν' b=ν b)∧S'.fr=S.fr∧S.nc≤S'.nc
 | [],e,c,S,ν,M,E,h,x,vs,⟨hv,hE⟩,hw,ss,S',hs=>by
   subst hE;subst hv
   cases hs
   exact⟨ν,M,h,rfl,fun _ _=>rfl,rfl,Nat.le_refl _⟩
 | [r],e,c,S,ν,M,E,h,x,vs,⟨v,hv,hr⟩,hw,ss,S',hs=>by
   subst hv
   simp only[jvn] at hs
   split at hs<;>cases hs
   rename_i s hs
   obtain⟨ν',M',k1,k2,k3⟩:=kbk h hr hw hs
   exact⟨ν',M',k1,⟨v,[],rfl,k2,rfl⟩,k3⟩
 | r::r'::l,e,c,S,ν,M,E,h,x,vs,⟨v,vs',E1,E2,e1,e2,h1,h2⟩,hw,ss,S',hs=>by
   subst e1;subst e2
   simp only[jvn] at hs
   split at hs<;>try (cases hs;done)
   rename_i s S1 hs1
   split at hs<;>try (cases hs;done)
   rename_i ss2 S2 hs2
   cases hs
   have h':ConX B ro e ((c.park E2).park E1) S tm H nx ν F M R:=by
    have:=h.reP (P':=E1++(E2++c.P)) (by
     show(E1++(E2++c.P)).Perm ((E2++E1)++c.P)
     rw[←List.append_assoc]
     exact List.Perm.append_right _ List.perm_append_comm)
    exact this
   obtain⟨ν1,M1,k1,k2,k3,k4,k5⟩:=kbk h' h1 (fun x hx=>hw x (by simp[hx])) hs1
   have h'':ConX B ro { e with ov:=s::e.ov } (({ c with oa:=v::c.oa }:Cnv).park E2) S1 tm H nx ν1 F M1 R:=
    ⟨k1.hk,k1.fr,⟨v,_,rfl,k2,k1.ov⟩,k1.mv,k1.wr,k1.mc,k1.fz,k1.gl⟩
   obtain⟨ν2,M2,j1,j2,j3,j4,j5⟩:=jq2 (r'::l) h'' h2 (fun x hx=>hw x (by simp[hx])) hs2
   obtain⟨v2,m2,e3,q1,q2⟩:=j1.ov
   cases e3
   exact⟨ν2,M2,⟨j1.hk,j1.fr,q2,j1.mv,j1.wr,j1.mc,j1.fz,j1.gl⟩,⟨v,vs',rfl,q1,j2⟩,fun b hb=>by rw[j3 b (by omega),k3 b hb],j4.trans k4,by omega⟩
inductive Pl where
 | t (n:Nat)
 | b (b:Nat)
 | o (b:Nat)
 | bm (k:Nat)
 | om (k:Nat)
def Pl.sh (b0:Nat) (p:Pl):Pl:=match p with
 | Pl.t n=>Pl.t n
 | Pl.b m=>Pl.b (b0+m)
 | Pl.o m=>Pl.o (b0+m)
 | Pl.bm m=>Pl.b (b0-m)
 | Pl.om m=>Pl.o (b0-m)
def kc7 (fr:SFr) (nc:Nat):List Pl→Mem→Option (List SV×Mem)
 | [],mv=>some ([],mv)
 | .t n::l,mv=>match lkS fr n,kc7 fr nc l mv with
   | some s,some (ss,mv)=>some (s::ss,mv)
   | _,_=>none
 | .b b::l,mv=>bif Nat.blt b nc then(match lkM mv b with
   | some (.lit cs)=>match kc7 fr nc l (jnc mv b) with
     | some (ss,mv)=>some (.agg cs::ss,mv)
     | none=>none
   | some (.fix t n L)=>match kc7 fr nc l (jnc mv b) with
     | some (ss,mv)=>some (.ag n t L::ss,mv)
     | none=>none
   | _=>none) else none
 | .o b::l,mv=>bif Nat.blt b nc then(match lkM mv b with
   | some (.arr t L cap)=>match kc7 fr nc l mv with
     | some (ss,mv)=>some (.own b::ss,mv)
     | none=>none
   | some (.mp k v L)=>match kc7 fr nc l mv with
     | some (ss,mv)=>some (.mp b::ss,mv)
     | none=>none
   | _=>none) else none
 | .bm _::_,_=>none
 | .om _::_,_=>none
def kdv:Mem→Nat→Nat→Mem
 | [],_,_=>[]
 | (k,v)::r,n,b=>bif Nat.beq k n then(b,v)::r else(k,v)::kdv r n b
def inP:List Pl→List SV→St→Option St
 | [],ss,S=>match ss with
   | []=>some S
   | _=>none
 | .t n::l,ss,S=>match ss with
   | s::ss=>match inP l ss S with
     | some S=>some { S with fr:=(n,s)::S.fr }
     | none=>none
   | _=>none
 | .b b::l,ss,S=>match ss with
   | .agg cs::ss=>match inP l ss S with
     | some S=>some { S with mv:=(b,.lit cs)::S.mv }
     | none=>none
   | .ag n t L::ss=>match inP l ss S with
     | some S=>some { S with mv:=(b,.fix t n L)::S.mv }
     | none=>none
   | _=>none
 | .o b::l,ss,S=>match ss with
   | .own n::ss=>match lkM S.mv n with
     | some (.arr _ _ _)=>inP l ss { S with mv:=kdv S.mv n b }
     | _=>none
   | .mp n::ss=>match lkM S.mv n with
     | some (.mp _ _ _)=>inP l ss { S with mv:=kdv S.mv n b }
     | _=>none
   | _=>none
 | .bm _::_,_,_=>none
 | .om _::_,_,_=>none
def PlO (x:Nat×AV) (vs vs':List AV):Prop:=∃v,vs=v::vs'∧(v=x.2∧slv v=true∧(∀k o n c z,x.2=.sl k o n c z→k=x.1)∨v=.mp x.1)
def PlR (ν:Nm) (tm:Tr AV) (nc:Nat):List Pl→List AV→List Ent→Prop
 | [],vs,E=>vs=[]∧E=[]
 | .t n::l,vs,E=>∃vs',vs=jbd tm (.t n)::vs'∧PlR ν tm nc l vs' E
 | .b b::l,vs,E=>∃m vs' E',vs=.agg m::vs'∧E=E'++[⟨(ν b).1,true,.cells m⟩]∧b<nc∧PlR ν tm nc l vs' E'
 | .o b::l,vs,E=>∃vs',PlO (ν b) vs vs'∧True∧b<nc∧PlR ν tm nc l vs' E
 | .bm _::_,_,_=>False
 | .om _::_,_,_=>False
theorem j7q {ν':Nm} {nc:Nat} (hν:∀b,b<nc→ν' b=ν b):∀ {l:List Pl} {vs:List AV} {E:List Ent},PlR ν tm nc l vs E→PlR ν' tm nc l vs E
 | [],vs,E,h=>h
 | .t n::l,vs,E,⟨vs',e1,h⟩=>⟨vs',e1,j7q hν h⟩
 | .b b::l,vs,E,⟨m,vs',E',e1,e2,h1,h2⟩=>⟨m,vs',E',e1,by rw[hν b h1];exact e2,h1,j7q hν h2⟩
 | .o b::l,vs,E,⟨vs',e1,e2,h1,h2⟩=>⟨vs',by rw[hν b h1];exact e1,e2,h1,j7q hν h2⟩
 | .bm _::_,vs,E,h=>h.elim
 | .om _::_,vs,E,h=>h.elim
theorem jrv {fr:SFr} {nc:Nat}:∀(l:List Pl) {c:Cnv} {S:St} {M:List Ent} (h:ConX B ro e c S tm H nx ν F M R) (hfr:∀n s,lkS fr n=some s→SVR ν F s (jbd tm (.t n))) {ss:List SV} {mv:Mem} (hs:kc7 fr nc l S.mv=some (ss,mv)),
  ∃vs E M',ConX B ro e (c.park E) { S with mv:=mv } tm H nx ν F M' R∧jb8 ν F ss vs∧PlR ν tm nc l vs E
 | [],c,S,M,h,hfr,ss,mv,hs=>by cases hs;exact⟨[],[],M,h,rfl,rfl,rfl⟩
 | .t n::l,c,S,M,h,hfr,ss,mv,hs=>by
   simp only[kc7] at hs
   split at hs<;>cases hs
   rename_i s ss h1 h2
   obtain⟨vs,E,M',k1,k2,k3⟩:=jrv l h hfr h2
   exact⟨_,E,M',k1,⟨_,vs,rfl,hfr _ _ h1,k2⟩,vs,rfl,k3⟩
 | .b b::l,c,S,M,h,hfr,ss,mv,hs=>by
   simp only[kc7] at hs
   obtain⟨hb,hs⟩:=jah hs
   have hb:b<nc:=by
    have:b+1≤nc:=by simpa[Nat.blt] using hb
    omega
   split at hs<;>try (cases hs;done)
   ·rename_i cs hl
    split at hs<;>cases hs
    rename_i ss h2
    obtain⟨E,M1,hE,hw,k⟩:=h.park hl
    obtain⟨w,m,rfl,hm⟩:=hE
    have ew:=hw _ (List.mem_singleton.2 rfl)
    simp only at ew
    subst ew
    obtain⟨vs,E',M',k1,k2,k3⟩:=jrv l (S:={ S with mv:=jnc S.mv b }) k hfr h2
    refine⟨.agg m::vs,E'++[⟨(ν b).1,true,.cells m⟩],M',?_,⟨_,vs,rfl,⟨m,rfl,hm⟩,k2⟩,m,vs,E',rfl,rfl,hb,k3⟩
    have:(c.park [⟨(ν b).1,true,.cells m⟩]).park E'=c.park (E'++[⟨(ν b).1,true,.cells m⟩]):=by simp[Cnv.park]
    rw[←this];exact k1
   ·rename_i t n L hl
    split at hs<;>cases hs
    rename_i ss h2
    obtain⟨E,M1,hE,hw,k⟩:=h.park hl
    obtain⟨w,m,rfl,hln,hm⟩:=hE
    have ew:=hw _ (List.mem_singleton.2 rfl)
    simp only at ew
    subst ew
    obtain⟨vs,E',M',k1,k2,k3⟩:=jrv l (S:={ S with mv:=jnc S.mv b }) k hfr h2
    refine⟨.agg m::vs,E'++[⟨(ν b).1,true,.cells m⟩],M',?_,⟨_,vs,rfl,⟨m,rfl,hln,hm⟩,k2⟩,m,vs,E',rfl,rfl,hb,k3⟩
    have:(c.park [⟨(ν b).1,true,.cells m⟩]).park E'=c.park (E'++[⟨(ν b).1,true,.cells m⟩]):=by simp[Cnv.park]
    rw[←this];exact k1
 | .o b::l,c,S,M,h,hfr,ss,mv,hs=>by
   simp only[kc7] at hs
   obtain⟨hb,hs⟩:=jah hs
   have hb:b<nc:=by
    have:b+1≤nc:=by simpa[Nat.blt] using hb
    omega
   split at hs<;>try (cases hs;done)
   rotate_left
   ·rename_i k v L hl
    split at hs<;>cases hs
    rename_i ss h2
    obtain⟨vs,E',M',k1,k2,k3⟩:=jrv l h hfr h2
    exact⟨.mp (ν b).1::vs,E',M',k1,⟨_,vs,rfl,rfl,k2⟩,vs,⟨_,rfl,.inr rfl⟩,trivial,hb,k3⟩
   rename_i t L cap hl
   split at hs<;>cases hs
   rename_i ss h2
   obtain⟨E0,hE0,_⟩:=h.own hl
   obtain⟨vs,E',M',k1,k2,k3⟩:=jrv l h hfr h2
   have hd:∃sz,HdR (ν b) t.size L.length cap sz:=by
    obtain⟨_,hE0⟩:=hE0
    rcases hE0 with⟨hd,_⟩ | ⟨_,_,_,hd,_⟩
    ·exact⟨_,hd⟩
    ·exact⟨_,hd⟩
   obtain⟨sz,hd⟩:=hd
   have hsl:slv (ν b).2=true:=by rcases hd with⟨e1,_⟩ | ⟨_,_,e1,_⟩<;>rw[e1]<;>rfl
   refine⟨(ν b).2::vs,E',M',k1,⟨_,vs,rfl,⟨rfl,hsl⟩,k2⟩,vs,⟨_,rfl,.inl ⟨rfl,hsl,?_⟩⟩,trivial,hb,k3⟩
   ·intro k o n c z hk
    rcases hd with⟨e1,_⟩ | ⟨_,_,e1,_⟩
    ·rw[e1] at hk;cases hk
    ·rw[e1] at hk;cases hk;rfl
 | .bm _::l,c,S,M,h,hfr,ss,mv,hs=>by cases hs
 | .om _::l,c,S,M,h,hfr,ss,mv,hs=>by cases hs
theorem j7s {n b:Nat} {t:Ty} {L:List t.den} {cap:Option Nat} (hν:(ν n).2=(ν b).2) (hk:∀k o m c z,(ν b).2=.sl k o m c z→k=(ν b).1):∀ {m:Mem} {M:List Ent},jrd ν F m M→lkM m n=some (.arr t L cap)→jrd ν F (kdv m n b) M
 | [],M,h,_=>h
 | (k,v)::m,M,⟨E,M',e1,h1,h2⟩,h=>by
   simp only[lkM] at h
   simp only[kdv]
   cases hb:Nat.beq k n<;>rw[hb] at h<;>simp only[cond_true,cond_false] at h ⊢
   ·exact⟨E,M',e1,h1,j7s hν hk h2 h⟩
   ·cases h
    rw[jaa,decide_eq_true_eq] at hb
    subst hb
    refine⟨E,M',e1,?_,h2⟩
    obtain⟨h0,h1⟩:=h1
    have hd:∀ {sz:Option Nat},HdR (ν k) t.size L.length cap sz→HdR (ν b) t.size L.length cap sz∧((∃y,sz=some y)→(ν k).1=(ν b).1):=by
     intro sz h
     rcases h with⟨g1,g2,g3⟩ | ⟨c',y,g1,g2,g3⟩
     ·exact⟨.inl ⟨by rw[←hν];exact g1,g2,g3⟩,fun⟨y,hy⟩=>by rw[g2] at hy;cases hy⟩
     ·have hkk:=hk _ _ _ _ _ (by rw[←hν];exact g1)
      exact⟨.inr ⟨c',y,by rw[←hν,←hkk];exact g1,g2,g3⟩,fun _=>hkk⟩
    rcases h1 with⟨g1,g2⟩ | ⟨w,mm,g1,g2,g3⟩
    ·exact⟨h0,.inl ⟨(hd g1).1,g2⟩⟩
    ·exact⟨h0,.inr ⟨w,mm,by rw[←(hd g2).2 ⟨_,rfl⟩];exact g1,(hd g2).1,g3⟩⟩
theorem j3n {n b:Nat} {sb:SB} (hB:∀E,jj9 ν F n sb E→jj9 ν F b sb E):∀ {m:Mem} {M:List Ent},jrd ν F m M→lkM m n=some sb→jrd ν F (kdv m n b) M
 | [],M,h,_=>h
 | (k,v)::m,M,⟨E,M',e1,h1,h2⟩,h=>by
   simp only[lkM] at h
   simp only[kdv]
   cases hb:Nat.beq k n<;>rw[hb] at h<;>simp only[cond_true,cond_false] at h ⊢
   ·exact⟨E,M',e1,h1,j3n hB h2 h⟩
   ·cases h
    rw[jaa,decide_eq_true_eq] at hb
    subst hb
    exact⟨E,M',e1,hB E h1,h2⟩
theorem jxu {nc:Nat}:∀(l:List Pl) {c:Cnv} {S:St} {M:List Ent} {E:List Ent} (h:ConX B ro e (c.park E) S tm H nx ν F M R) {ss:List SV} {vs:List AV} (hv:jb8 ν F ss vs) (hp:PlR ν tm nc l vs E) {S':St} (hs:inP l ss S=some S'),
  ∃M',ConX B ro e c S' tm H nx ν F M' R∧S'.nc=S.nc
 | [],c,S,M,E,h,ss,vs,hv,⟨hvs,hE⟩,S',hs=>by
   subst hE
   simp only[inP] at hs
   split at hs<;>cases hs
   exact⟨M,h,rfl⟩
 | .t n::l,c,S,M,E,h,ss,vs,hv,⟨vs',hvs,hp⟩,S',hs=>by
   subst hvs
   simp only[inP] at hs
   split at hs<;>try (cases hs;done)
   rename_i s ss
   split at hs<;>cases hs
   rename_i S1 h1
   obtain⟨v,m',e1,v1,v2⟩:=hv
   cases e1
   obtain⟨M',k1,k2⟩:=jxu l h v2 hp h1
   refine⟨M',⟨k1.hk,fun k v hk=>?_,k1.ov,k1.mv,k1.wr,k1.mc,k1.fz,k1.gl⟩,k2⟩
   simp only[List.cons_append,lkS] at hk
   cases hb:Nat.beq n k<;>rw[hb] at hk<;>simp only[cond_true,cond_false] at hk
   ·exact k1.fr k v hk
   ·cases hk
    rw[jaa,decide_eq_true_eq] at hb
    subst hb
    exact v1
 | .b b::l,c,S,M,E,h,ss,vs,hv,⟨m,vs',E',hvs,hE,hb,hp⟩,S',hs=>by
   subst hvs;subst hE
   have h':ConX B ro e ((c.park [⟨(ν b).1,true,.cells m⟩]).park E') S tm H nx ν F M R:=by
    have:(c.park [⟨(ν b).1,true,.cells m⟩]).park E'=c.park (E'++[⟨(ν b).1,true,.cells m⟩]):=by simp[Cnv.park]
    rw[this];exact h
   have ww:∀x∈([⟨(ν b).1,true,.cells m⟩]:List Ent),x.w=true:=fun x hx=>by rw[List.mem_singleton.1 hx]
   simp only[inP] at hs
   split at hs<;>try (cases hs;done)
   ·rename_i cs ss
    split at hs<;>cases hs
    rename_i S1 h1
    obtain⟨v,m',e1,v1,v2⟩:=hv
    cases e1
    obtain⟨m2,e2,v1⟩:=v1
    cases e2
    obtain⟨M',k1,k2⟩:=jxu l h' v2 hp h1
    exact⟨_,j05 k1 (sb:=.lit cs) ⟨true,m,rfl,v1⟩ ww,k2⟩
   ·rename_i n t L ss
    split at hs<;>cases hs
    rename_i S1 h1
    obtain⟨v,m',e1,v1,v2⟩:=hv
    cases e1
    obtain⟨m2,e2,hl1,v1⟩:=v1
    cases e2
    obtain⟨M',k1,k2⟩:=jxu l h' v2 hp h1
    exact⟨_,j05 k1 (sb:=.fix t n L) ⟨true,m,rfl,hl1,v1⟩ ww,k2⟩
 | .o b::l,c,S,M,E,h,ss,vs,hv,⟨vs',⟨v0,hvs,hkk⟩,_,hb,hp⟩,S',hs=>by
   subst hvs
   simp only[inP] at hs
   split at hs<;>try (cases hs;done)
   rotate_left
   ·rename_i n ss
    split at hs<;>try (cases hs;done)
    rename_i k v L hl
    obtain⟨v,m',e1,v1,v2⟩:=hv
    cases e1
    have v1:v0=.mp (ν n).1:=v1
    rcases hkk with⟨_,hsl,_⟩ | hkk
    ·rw[v1] at hsl;cases hsl
    have e2:(ν n).1=(ν b).1:=by
     rw[v1] at hkk
     injection hkk
    have hren:ConX B ro e (c.park E) { S with mv:=kdv S.mv n b } tm H nx ν F M R:=
     ⟨h.hk,h.fr,h.ov,j3n (fun E hE=>by simp only[jj9] at hE ⊢;rw[←e2];exact hE) h.mv hl,h.wr,h.mc,h.fz,h.gl⟩
    exact jxu l hren v2 hp hs
   rename_i n ss
   split at hs<;>try (cases hs;done)
   rename_i t L cap hl
   obtain⟨v,m',e1,v1,v2⟩:=hv
   cases e1
   rcases hkk with⟨rfl,_,hkk⟩ | hkk
   rotate_left
   ·have h2:=v1.2
    rw[hkk] at h2;cases h2
   have hren:ConX B ro e (c.park E) { S with mv:=kdv S.mv n b } tm H nx ν F M R:=
    ⟨h.hk,h.fr,h.ov,j7s v1.1.symm hkk h.mv hl,h.wr,h.mc,h.fz,h.gl⟩
   exact jxu l hren v2 hp hs
 | .bm _::l,c,S,M,E,h,ss,vs,hv,hp,S',hs=>hp.elim
 | .om _::l,c,S,M,E,h,ss,vs,hv,hp,S',hs=>hp.elim
end X
end Go.Vm
