/-
  A region whose order is drawn: the run in the order of the text serves every order.
-/
import Derived.Test.YtccefhabickfiaaGreatDoorVmZH
set_option linter.unusedSimpArgs false
set_option linter.unusedVariables false
set_option linter.unusedSectionVars false
set_option linter.unnecessarySimpa false
namespace Go.Vm
structure Trace (call:FuncId->List AV->Tr Blk->Nat->Nat->eQ) (ro:Nat) (l:List COp) (T:Nat->St) (V:Nat->AV):Prop where
 step:∀k c,l[k]?=some c->nP call ro c (T k).1 (T k).2.1 (T k).2.2=some (V k,(T (k+1)).2.1,(T (k+1)).2.2)/\(T (k+1)).1=tO c.dst (V k) (T k).1
theorem j52 {call:FuncId->List AV->Tr Blk->Nat->Nat->eQ} {ro:Nat}:∀(l:List COp) (s s':St),sA call ro l s=some s'->∃T V,T 0=s/\T l.length=s'/\Trace call ro l T V
 | [],s,s',h=>by
   obtain⟨tm,H,nx⟩:=s;simp only[sA,bA] at h;exact⟨λ_=>s',λ_=>.nili,h.symm,rfl,⟨λk c hk=>by simp at hk⟩⟩
 | o::l,(tm,H,nx),s',h=>by
   obtain⟨v,H1,nx1,h1,h2⟩:=jvw h;obtain⟨T,V,t1,t2,t3⟩:=j52 l _ s' h2;refine⟨λk=>match k with | 0=>(tm,H,nx) | k+1=>T k,λk=>match k with | 0=>v | k+1=>V k,rfl,t2,⟨λk c hk=>?_⟩⟩;cases k with
   | zero=>
     simp only[z7,bA] at hk;subst hk;simp only[t1];exact⟨h1,trivial⟩
   | succ k=>exact t3.step k c (by simpa using hk)
section
variable {call:FuncId->List AV->Tr Blk->Nat->Nat->eQ} {ro:Nat}
theorem jp7 {c:COp} {tm:Tr AV} {H:Tr Blk} {nx:Nat} {p:Bool} {x:eQ} {r:AV×Tr Blk×Nat} (hj:∀f xs,c.j≠ .h (.call f xs)) (h:(bif p then x else jbd call ro c tm H nx)=some r):p=true/\x=some r:=by
 cases p with
 | true=>exact⟨rfl,h⟩
 | false=>
   simp only[aJ] at h;unfold jbd at h;split at h
   ·rename_i e;exact absurd e (hj _ _)
   ·cases h
theorem j4c {c:COp} {tm:Tr AV} {H H':Tr Blk} {nx nx':Nat} {v:AV} (hp:c.isP=true) (h:nP call ro c tm H nx=some (v,H',nx')):
  H'=H/\nx'=nx/\∀H2 nx2,nP call ro c tm H2 nx2=some (v,H2,nx2):=by
 unfold COp.isP at hp;split at hp
 ·rename_i i hi;unfold nP nY at h ⊢;simp only[hi] at h ⊢;split at h
  ·rename_i hg;split at h
   ·rename_i v0 hv;simp only[bA,bK] at h;obtain⟨rfl,rfl,rfl⟩:=h;exact⟨rfl,rfl,λ_ _=>rfl⟩
   ·cases h
  ·rename_i t want hg;split at h
   ·rename_i b hb;rcases xJ h with⟨hc,h⟩ | ⟨hc,h⟩
    ·split at h
     ·rename_i v0 hv;simp only[bA,bK] at h;obtain⟨rfl,rfl,rfl⟩:=h;exact⟨rfl,rfl,λ_ _=>by simp[hc]⟩
     ·cases h
    ·simp only[bA,bK] at h;obtain⟨rfl,rfl,rfl⟩:=h;exact⟨rfl,rfl,λ_ _=>by simp[hc]⟩
   ·simp only[bA,bK] at h;obtain⟨rfl,rfl,rfl⟩:=h;exact⟨rfl,rfl,λ_ _=>rfl⟩
 ·cases hp
theorem hop_load {g:Opd->AV} {agg:Bool} {n:Nat} {x:Opd} {H H':Tr Blk} {nx nx' r:Nat} {v:AV} (h:hop call r g H nx (.load agg n x)=some (v,H',nx')):
  H'=H/\nx'=nx/\(∃b o,g x=.ptr b o/\(H.get b).isSome)/\∀(H2:Tr Blk) nx2 r2,(∀b o,g x=.ptr b o->H2.get b=H.get b)->hop call r2 g H2 nx2 (.load agg n x)=some (v,H2,nx2):=by
 simp only[hop] at h ⊢;split at h
 ·rename_i b o hx;split at h
  ·rename_i c m hb;obtain⟨hq,h⟩:=cF h;split at h
   ·rename_i l hl;split at h
    ·rename_i v0 hv;simp only[bA,bK] at h;obtain⟨rfl,rfl,rfl⟩:=h;refine⟨rfl,rfl,⟨b,o,hx,by rw[hb];rfl⟩,λH2 nx2 r2 h2=>?_⟩;rw[h2 b o hx,hb];simp[hq,hl,hv]
    ·cases h
   ·cases h
  ·cases h
 ·cases h
theorem j4b {c:COp} {tm:Tr AV} {H H':Tr Blk} {nx nx':Nat} {v:AV} {x:Opd} (hp:c.loadAt=some x) (h:nP call ro c tm H nx=some (v,H',nx')):
  H'=H/\nx'=nx/\∀(H2:Tr Blk) nx2,(∀b o,cP tm x=.ptr b o->(H.get b).isSome->H2.get b=H.get b)->nP call ro c tm H2 nx2=some (v,H2,nx2):=by
 unfold COp.loadAt at hp;split at hp
 ·rename_i agg n x0 hj;cases hp;have go:nY call ro c tm H nx=some (v,H',nx')->H'=H/\nx'=nx/\∀(H2:Tr Blk) nx2,(∀b o,cP tm x=.ptr b o->(H.get b).isSome->H2.get b=H.get b)->nY call ro c tm H2 nx2=some (v,H2,nx2):=by
   intro hh;unfold nY at hh ⊢;simp only[hj] at hh ⊢;obtain⟨hq,hh⟩:=jp7 (by rintro f xs e;rw[hj] at e;cases e) hh;obtain⟨a1,a2,⟨b0,o0,a3,a5⟩,a4⟩:=hop_load hh;refine⟨a1,a2,λH2 nx2 h2=>?_⟩;rw[hq];exact a4 H2 nx2 (bif c.q then nx2 else ro) λb o hb=>h2 b o hb (by rw[a3] at hb;cases hb;exact a5)
  unfold nP at h ⊢;split at h
  ·exact go h
  ·rename_i t want hg;split at h
   ·rename_i b hb;rcases xJ h with⟨hc,h⟩ | ⟨hc,h⟩
    ·obtain⟨a1,a2,a3⟩:=go h;exact⟨a1,a2,λH2 nx2 h2=>by simp[hc,a3 H2 nx2 h2]⟩
    ·simp only[bA,bK] at h;obtain⟨rfl,rfl,rfl⟩:=h;exact⟨rfl,rfl,λ_ _ _=>by simp[hc]⟩
   ·simp only[bA,bK] at h;obtain⟨rfl,rfl,rfl⟩:=h;exact⟨rfl,rfl,λ_ _ _=>rfl⟩
 ·cases hp
theorem kno {c:COp} {tm:Tr AV} {H H':Tr Blk} {nx nx':Nat} {v:AV} {n:Nat} {x y:Opd} (hj:c.j=.h (.store n x y)) (h:nP call ro c tm H nx=some (v,H',nx')):
  nx'=nx/\∀a∈c.ex,∀b o,cP tm a=.ptr b o->H'.get b=H.get b:=by
 have go:nY call ro c tm H nx=some (v,H',nx')->nx'=nx/\∀a∈c.ex,∀b o,cP tm a=.ptr b o->H'.get b=H.get b:=by
  intro hh;unfold nY at hh;simp only[hj] at hh;obtain⟨hq,hh⟩:=jp7 (by rintro f xs e;rw[hj] at e;cases e) hh;simp only[hop] at hh;split at hh
  ·rename_i b o hx;split at hh
   ·rename_i ct m hb;obtain⟨hq2,hh⟩:=cF hh;simp only[rY,sR,bA,bK] at hh;obtain⟨_,rfl,rfl⟩:=hh;refine⟨rfl,λa ha b' o' hab=>?_⟩;rw[Tr.get_set,aF];rintro rfl;rw[pC] at hq;rcases hq with hq | hq
    ·cases hex:c.ex with
     | nil=>rw[hex] at ha;cases ha
     | cons _ _=>rw[hex] at hq;cases hq
    ·simp only[yC,hx] at hq;have:=cI.1 hq a ha;rw[hab] at this;simp[bQ] at this
   ·cases hh
  ·cases hh
 unfold nP at h;split at h
 ·exact go h
 ·split at h
  ·rcases xJ h with⟨hc,h⟩ | ⟨hc,h⟩
   ·exact go h
   ·simp only[bA,bK] at h;obtain⟨_,rfl,rfl⟩:=h;exact⟨rfl,λ_ _ _ _ _=>rfl⟩
  ·simp only[bA,bK] at h;obtain⟨_,rfl,rfl⟩:=h;exact⟨rfl,λ_ _ _ _ _=>rfl⟩
theorem knm {c:COp} {tm:Tr AV} {H H':Tr Blk} {nx nx':Nat} {v:AV} {f:FuncId} {xs:List Opd} (hj:c.j=.h (.call f xs)) (h:nP call ro c tm H nx=some (v,H',nx')):
  ∀a∈c.ex,∀b o,cP tm a=.ptr b o->H'.get b=H.get b:=by
 have go:nY call ro c tm H nx=some (v,H',nx')->∀a∈c.ex,∀b o,cP tm a=.ptr b o->H'.get b=H.get b:=by
  intro hh a ha;unfold nY at hh;simp only[hj] at hh;have hne:(c.ex.isEmpty||yC (cP tm) (.call f xs) c.ex)=false:=by
   cases hex:c.ex with
   | nil=>rw[hex] at ha;cases ha
   | cons _ _=>rfl
  rw[hne] at hh;simp only[aJ] at hh;unfold jbd at hh;rw[hj] at hh;obtain⟨hq,hh⟩:=X0 hh;split at hh<;>try (cases hh;done)
  simp only[fR] at hh;obtain⟨H2,hb,e1⟩:=hh;cases e1;exact(je0 hb).2 a ha
 unfold nP at h;split at h
 ·exact go h
 ·split at h
  ·rcases xJ h with⟨hc,h⟩ | ⟨hc,h⟩
   ·exact go h
   ·simp only[bA,bK] at h;obtain⟨_,rfl,rfl⟩:=h;exact λ_ _ _ _ _=>rfl
  ·simp only[bA,bK] at h;obtain⟨_,rfl,rfl⟩:=h;exact λ_ _ _ _ _=>rfl
theorem j90 {z rr k:Nat} {H H':Tr Blk} {nx nx':Nat} {x v:AV} {new:List AV} (h:rU z rr H nx x k new=some (v,H',nx')):
  nx<=nx'/\∀b,b<nx->(∀b0 o n c z0,x=.sl b0 o n c z0->b≠b0)->H'.get b=H.get b:=by
 unfold rU at h;split at h
 ·rcases xJ h with⟨_,h⟩ | ⟨_,h⟩
  ·cases h;exact⟨bV _,λ_ _ _=>rfl⟩
  ·rw[oS] at h;cases h;exact⟨by omega,λb hb _=>by rw[Tr.get_set,aF (by omega)]⟩
 ·rename_i b o len cap z';rcases xJ h with⟨_,h⟩ | ⟨_,h⟩
  ·cases h
  rcases xJ h with⟨_,h⟩ | ⟨_,h⟩
  ·cases h;exact⟨bV _,λ_ _ _=>rfl⟩
  split at h
  ·rename_i c m hb;simp only at h;rcases xJ h with⟨_,h⟩ | ⟨_,h⟩
   ·obtain⟨_,h⟩:=cF h;simp only[rY,sR,bA,bK] at h;obtain⟨_,rfl,rfl⟩:=h;exact⟨bV _,λb1 _ hne=>by rw[Tr.get_set,aF (hne _ _ _ _ _ rfl)]⟩
   ·split at h
    ·cases h
    ·split at h
     ·rw[oS] at h;cases h;exact⟨by omega,λb1 hb1 _=>by rw[Tr.get_set,aF (by omega)]⟩
     ·obtain⟨_,h⟩:=cF h;rw[Tr.delK_eq,oS] at h;cases h;refine⟨by omega,λb1 hb1 hne=>?_⟩;rw[Tr.get_set,aF (by omega),Tr.get_del,aF (hne _ _ _ _ _ rfl)]
  ·cases h
 ·cases h
theorem j4a {c:COp} {tm:Tr AV} {H H':Tr Blk} {nx nx':Nat} {v:AV} (hj:c.isApp=true) (h:nP call ro c tm H nx=some (v,H',nx')):
  ∀a∈c.ex,∀b,b<nx->((∃o,cP tm a=.ptr b o)\/∃o n cp z,cP tm a=.sl b o n cp z)->H'.get b=H.get b:=by
 obtain⟨z,bytes,x,y,hj⟩:∃z bytes x y,c.j=.h (.app z bytes x y):=by
  unfold COp.isApp at hj;split at hj
  ·rename_i e;exact⟨_,_,_,_,e⟩
  ·cases hj
 have go:nY call ro c tm H nx=some (v,H',nx')->∀a∈c.ex,∀b,b<nx->((∃o,cP tm a=.ptr b o)\/∃o n cp z,cP tm a=.sl b o n cp z)->H'.get b=H.get b:=by
  intro hh a ha b hb hv;unfold nY at hh;simp only[hj] at hh;obtain⟨hq,hh⟩:=jp7 (by rintro f xs e;rw[hj] at e;cases e) hh;have hex:yC (cP tm) (.app z bytes x y) c.ex=true:=by
   rw[pC] at hq;rcases hq with hq | hq
   ·cases hex:c.ex with
    | nil=>rw[hex] at ha;cases ha
    | cons _ _=>rw[hex] at hq;cases hq
   ·exact hq
  simp only[hop] at hh;split at hh<;>try (cases hh;done)
  obtain⟨_,hh⟩:=cF hh;split at hh<;>try (cases hh;done)
  obtain⟨_,hh⟩:=cF hh;refine(j90 hh).2 b hb λb0 o n c0 z0 e=>?_
  simp only[yC,e] at hex;have:=cI.1 hex a ha;rintro rfl;rcases hv with⟨o',hv⟩ | ⟨o',n',cp',z',hv⟩
  ·rw[hv] at this;simp[bQ] at this
  ·rw[hv] at this;simp[bQ] at this
 unfold nP at h;split at h
 ·exact go h
 ·split at h
  ·rcases xJ h with⟨hc,h⟩ | ⟨hc,h⟩
   ·exact go h
   ·simp only[bA,bK] at h;obtain⟨_,rfl,rfl⟩:=h;exact λ_ _ _ _ _=>rfl
  ·simp only[bA,bK] at h;obtain⟨_,rfl,rfl⟩:=h;exact λ_ _ _ _ _=>rfl
theorem knn {c:COp} {tm:Tr AV} {H H':Tr Blk} {nx nx':Nat} {v:AV} (hj:c.lays=true) (h:nP call ro c tm H nx=some (v,H',nx')):
  ∃HE,nP call ro c tm .e nx=some (v,HE,nx')/\(∀b,nx<=b->b<nx'->HE.get b=H'.get b)/\(nx'=nx\/(nx'=nx+1/\((∃o,v=.ptr nx o)\/∃o n cp z,v=.sl nx o n cp z))):=by
 have nc:∀ {l:List AV} {f:Nat->AV},y6 l f H nx=some (v,H',nx')->((∃o,f nx=.ptr nx o)\/∃o n cp z,f nx=.sl nx o n cp z)->∃HE,y6 l f .e nx=some (v,HE,nx')/\(∀b,nx<=b->b<nx'->HE.get b=H'.get b)/\(nx'=nx\/(nx'=nx+1/\((∃o,v=.ptr nx o)\/∃o n cp z,v=.sl nx o n cp z))):=by
  intro l f hh hf;rw[oS] at hh ⊢;cases hh;refine⟨_,rfl,λb h1 h2=>?_,.inr ⟨rfl,hf⟩⟩;have:b=nx:=by omega
  subst this;simp[Tr.get_set]
 have go:nY call ro c tm H nx=some (v,H',nx')->∃HE,nY call ro c tm .e nx=some (v,HE,nx')/\(∀b,nx<=b->b<nx'->HE.get b=H'.get b)/\(nx'=nx\/(nx'=nx+1/\((∃o,v=.ptr nx o)\/∃o n cp z,v=.sl nx o n cp z))):=by
  intro hh;unfold nY at hh ⊢;unfold COp.lays at hj;split at hj<;>try (cases hj;done)
  all_goals
   rename_i hc;simp only[hc] at hh ⊢;obtain⟨hq,hh⟩:=jp7 (by rintro f xs e;rw[hc] at e;cases e) hh;rw[hq];simp only[aH,hop] at hh ⊢
  ·exact nc hh (.inl ⟨_,rfl⟩)
  ·exact nc hh (.inl ⟨_,rfl⟩)
  ·rcases xJ hh with⟨_,hh⟩ | ⟨h1,hh⟩
   ·cases hh
   ·rw[h1];simp only[aJ];split at hh
    ·obtain⟨h2,hh⟩:=cF hh;rw[h2];exact nc hh (.inr ⟨_,_,_,_,rfl⟩)
    ·cases hh
  ·split at hh
   ·obtain⟨h2,hh⟩:=cF hh;rw[h2];exact nc hh (.inr ⟨_,_,_,_,rfl⟩)
   ·cases hh
  ·cases hh
 unfold nP at h ⊢;split at h
 ·exact go h
 ·rename_i t want hg;split at h
  ·rename_i b hb;rcases xJ h with⟨hc,h⟩ | ⟨hc,h⟩
   ·obtain⟨HE,a1,a2⟩:=go h;exact⟨HE,by simp[hc,a1],a2⟩
   ·simp only[bA,bK] at h;obtain⟨rfl,rfl,rfl⟩:=h;exact⟨.e,by simp[hc],λb h1 h2=>by omega,.inl rfl⟩
  ·simp only[bA,bK] at h;obtain⟨rfl,rfl,rfl⟩:=h;exact⟨.e,rfl,λb h1 h2=>by omega,.inl rfl⟩
end
def tv (l:List COp) (V:Nat->AV) (tm0:Tr AV) (S:Nat->Prop) [DecidablePred S]:Nat->Nat->AV
 | 0,t=>cP tm0 (.t t)
 | k+1,t=>if S k/\(l[k]?).bind (·.dst)=some t then V k else tv l V tm0 S k t
section
variable {l:List COp} {V:Nat->AV} {tm0:Tr AV} {S:Nat->Prop} [DecidablePred S]
theorem jw4 {t:Nat} {i:Nat}:∀(d:Nat),(∀k,i<=k->k<i+d->S k->(l[k]?).bind (·.dst)≠some t)->tv l V tm0 S (i+d) t=tv l V tm0 S i t
 | 0,_=>rfl
 | d+1,h=>by
   rw[show i+ (d+1)=(i+d)+1 by omega,tv,aF]
   ·exact jw4 d λk h1 h2=>h k h1 (by omega)
   ·rintro ⟨h1,h2⟩;exact h (i+d) (by omega) (by omega) h1 h2
theorem jw3 {call:FuncId->List AV->Tr Blk->Nat->Nat->eQ} {ro:Nat} {T:Nat->St} (tr:Trace call ro l T V) (h0:(T 0).1=tm0) {t:Nat}:∀(i:Nat),i<=l.length->
  (∀k,k<i->(l[k]?).bind (·.dst)=some t->S k)->cP (T i).1 (.t t)=tv l V tm0 S i t
 | 0,_,_=>by rw[h0];rfl
 | i+1,hi,h=>by
   obtain⟨c,hc⟩:∃c,l[i]?=some c:=⟨l[i],by simp[show i<l.length by omega]⟩
   obtain⟨_,h2⟩:=tr.step i c hc;have ih:=jw3 tr h0 i (by omega) λk h1 h2=>h k (by omega) h2
   rw[h2,tv];by_cases hd:(l[i]?).bind (·.dst)=some t
   ·rw[aK ⟨h i (by omega) hd,hd⟩];rw[hc] at hd;simp only[aC] at hd;rw[hd];simp[tO,C9]
   ·rw[aF (λh=>hd h.2),<-ih];rw[hc] at hd;simp only[aC] at hd;cases hdst:c.dst with
    | none=>rfl
    | some d=>
      rw[hdst] at hd;simp only[tO,C9];rw[aF (λe=>hd (by rw[e]))]
theorem j55 {S':Nat->Prop} [DecidablePred S'] {t:Nat}:∀(m:Nat),(∀k,k<m->(l[k]?).bind (·.dst)=some t->(S k↔S' k))->tv l V tm0 S m t=tv l V tm0 S' m t
 | 0,_=>rfl
 | m+1,h=>by
   simp only[tv];rw[j55 m λk h1 h2=>h k (by omega) h2];by_cases hd:(l[m]?).bind (·.dst)=some t
   ·have:=h m (by omega) hd;simp[hd,this]
   ·simp[hd]
theorem ko9 {t i m:Nat} (hi:i<m) (h1:S i) (h2:(l[i]?).bind (·.dst)=some t) (h:∀k,i<k->k<m->S k->(l[k]?).bind (·.dst)≠some t):tv l V tm0 S m t=V i:=by
 obtain⟨d,rfl⟩:∃d,m=i+1+d:=⟨m-(i+1),by omega⟩
 rw[jw4 d λk g1 g2=>h k (by omega) (by omega)];simp[tv,h1,h2]
end
theorem jz0:∀(l:List Bool) (i:Nat),l[i]?=some false->(l.set i true).count false+1=l.count false
 | [],i,h=>by simp at h
 | b::l,0,h=>by
   simp only[z7,bA] at h;subst h;simp[qiy]
 | b::l,i+1,h=>by
   simp only[qeh] at h;have:=jz0 l i h;simp only[qg4,qiy];omega
end Go.Vm
