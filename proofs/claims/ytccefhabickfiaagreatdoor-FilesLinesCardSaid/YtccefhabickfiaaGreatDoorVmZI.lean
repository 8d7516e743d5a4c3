/- A region whose order is drawn: the run in the order of the text serves every order. -/
import Derived.Test.YtccefhabickfiaaGreatDoorVmZH
set_option linter.unusedSimpArgs false
set_option linter.unusedVariables false
namespace Go.Vm
structure Trace (call:FuncId->List AV->Tr Blk->Nat->Nat->dR) (ro:Nat) (l:List COp) (T:Nat->St) (V:Nat->AV):Prop where
 step:∀k c,l[k]?=some c->lJ call ro c (T k).1 (T k).2.1 (T k).2.2=some (V k,(T (k+1)).2.1,(T (k+1)).2.2)/\(T (k+1)).1=qK c.dst (V k) (T k).1
theorem j5z {call:FuncId->List AV->Tr Blk->Nat->Nat->dR} {ro:Nat}:∀(l:List COp) (s s':St),oZ call ro l s=some s'->∃T V,T 0=s/\T l.length=s'/\Trace call ro l T V
 | [],s,s',h=>by
   obtain⟨tm,H,nx⟩:=s;simp only[oZ,aS] at h;exact⟨λ_=>s',λ_=>.nili,h.symm,rfl,⟨λk c hk=>by simp at hk⟩⟩
 | o::l,(tm,H,nx),s',h=>by
   obtain⟨v,H1,nx1,h1,h2⟩:=juv h;obtain⟨T,V,t1,t2,t3⟩:=j5z l _ s' h2;refine⟨λk=>match k with | 0=>(tm,H,nx) | k+1=>T k,λk=>match k with | 0=>v | k+1=>V k,rfl,t2,⟨λk c hk=>?_⟩⟩;cases k with
   | zero=>
     simp only[xK,aS] at hk;subst hk;simp only[t1];exact⟨h1,trivial⟩
   | succ k=>exact t3.step k c (by simpa using hk)
section
variable {call:FuncId->List AV->Tr Blk->Nat->Nat->dR} {ro:Nat}
theorem jol {c:COp} {tm:Tr AV} {H:Tr Blk} {nx:Nat} {p:Bool} {x:dR} {r:AV×Tr Blk×Nat} (hj:∀f xs,c.j≠ .h (.call f xs)) (h:(bif p then x else T9 call ro c tm H nx)=some r):p=true/\x=some r:=by
 cases p with
 | true=>exact⟨rfl,h⟩
 | false=>
   simp only[aG] at h;unfold T9 at h;split at h
   ·rename_i e;exact absurd e (hj _ _)
   ·cases h
theorem j3u {c:COp} {tm:Tr AV} {H H':Tr Blk} {nx nx':Nat} {v:AV} (hp:c.isP=true) (h:lJ call ro c tm H nx=some (v,H',nx')):
  H'=H/\nx'=nx/\∀H2 nx2,lJ call ro c tm H2 nx2=some (v,H2,nx2):=by
 unfold COp.isP at hp;split at hp
 ·rename_i i hi;unfold lJ lS at h ⊢;simp only[hi] at h ⊢;split at h
  ·rename_i hg;split at h
   ·rename_i v0 hv;simp only[aS,bC] at h;obtain⟨rfl,rfl,rfl⟩:=h;exact⟨rfl,rfl,λ_ _=>rfl⟩
   ·cases h
  ·rename_i t want hg;split at h
   ·rename_i b hb;rcases sP h with⟨hc,h⟩ | ⟨hc,h⟩
    ·split at h
     ·rename_i v0 hv;simp only[aS,bC] at h;obtain⟨rfl,rfl,rfl⟩:=h;exact⟨rfl,rfl,λ_ _=>by simp[hc]⟩
     ·cases h
    ·simp only[aS,bC] at h;obtain⟨rfl,rfl,rfl⟩:=h;exact⟨rfl,rfl,λ_ _=>by simp[hc]⟩
   ·simp only[aS,bC] at h;obtain⟨rfl,rfl,rfl⟩:=h;exact⟨rfl,rfl,λ_ _=>rfl⟩
 ·cases hp
theorem hop_load {g:Opd->AV} {agg:Bool} {n:Nat} {x:Opd} {H H':Tr Blk} {nx nx' r:Nat} {v:AV} (h:hop call r g H nx (.load agg n x)=some (v,H',nx')):
  H'=H/\nx'=nx/\(∃b o,g x=.ptr b o/\(H.get b).isSome)/\∀(H2:Tr Blk) nx2 r2,(∀b o,g x=.ptr b o->H2.get b=H.get b)->hop call r2 g H2 nx2 (.load agg n x)=some (v,H2,nx2):=by
 simp only[hop] at h ⊢;split at h
 ·rename_i b o hx;split at h
  ·rename_i c m hb;obtain⟨hq,h⟩:=bS h;split at h
   ·rename_i l hl;split at h
    ·rename_i v0 hv;simp only[aS,bC] at h;obtain⟨rfl,rfl,rfl⟩:=h;refine⟨rfl,rfl,⟨b,o,hx,by rw[hb];rfl⟩,λH2 nx2 r2 h2=>?_⟩;rw[h2 b o hx,hb];simp[hq,hl,hv]
    ·cases h
   ·cases h
  ·cases h
 ·cases h
theorem j3t {c:COp} {tm:Tr AV} {H H':Tr Blk} {nx nx':Nat} {v:AV} {x:Opd} (hp:c.loadAt=some x) (h:lJ call ro c tm H nx=some (v,H',nx')):
  H'=H/\nx'=nx/\∀(H2:Tr Blk) nx2,(∀b o,bV tm x=.ptr b o->(H.get b).isSome->H2.get b=H.get b)->lJ call ro c tm H2 nx2=some (v,H2,nx2):=by
 unfold COp.loadAt at hp;split at hp
 ·rename_i agg n x0 hj;cases hp;have go:lS call ro c tm H nx=some (v,H',nx')->H'=H/\nx'=nx/\∀(H2:Tr Blk) nx2,(∀b o,bV tm x=.ptr b o->(H.get b).isSome->H2.get b=H.get b)->lS call ro c tm H2 nx2=some (v,H2,nx2):=by
   intro hh;unfold lS at hh ⊢;simp only[hj] at hh ⊢;obtain⟨hq,hh⟩:=jol (by rintro f xs e;rw[hj] at e;cases e) hh;obtain⟨a1,a2,⟨b0,o0,a3,a5⟩,a4⟩:=hop_load hh;refine⟨a1,a2,λH2 nx2 h2=>?_⟩;rw[hq];exact a4 H2 nx2 (bif c.q then nx2 else ro) λb o hb=>h2 b o hb (by rw[a3] at hb;cases hb;exact a5)
  unfold lJ at h ⊢;split at h
  ·exact go h
  ·rename_i t want hg;split at h
   ·rename_i b hb;rcases sP h with⟨hc,h⟩ | ⟨hc,h⟩
    ·obtain⟨a1,a2,a3⟩:=go h;exact⟨a1,a2,λH2 nx2 h2=>by simp[hc,a3 H2 nx2 h2]⟩
    ·simp only[aS,bC] at h;obtain⟨rfl,rfl,rfl⟩:=h;exact⟨rfl,rfl,λ_ _ _=>by simp[hc]⟩
   ·simp only[aS,bC] at h;obtain⟨rfl,rfl,rfl⟩:=h;exact⟨rfl,rfl,λ_ _ _=>rfl⟩
 ·cases hp
theorem kmr {c:COp} {tm:Tr AV} {H H':Tr Blk} {nx nx':Nat} {v:AV} {n:Nat} {x y:Opd} (hj:c.j=.h (.store n x y)) (h:lJ call ro c tm H nx=some (v,H',nx')):
  nx'=nx/\∀a∈c.ex,∀b o,bV tm a=.ptr b o->H'.get b=H.get b:=by
 have go:lS call ro c tm H nx=some (v,H',nx')->nx'=nx/\∀a∈c.ex,∀b o,bV tm a=.ptr b o->H'.get b=H.get b:=by
  intro hh;unfold lS at hh;simp only[hj] at hh;obtain⟨hq,hh⟩:=jol (by rintro f xs e;rw[hj] at e;cases e) hh;simp only[hop] at hh;split at hh
  ·rename_i b o hx;split at hh
   ·rename_i ct m hb;obtain⟨hq2,hh⟩:=bS hh;simp only[oY,pS,aS,bC] at hh;obtain⟨_,rfl,rfl⟩:=hh;refine⟨rfl,λa ha b' o' hab=>?_⟩;rw[Tr.get_set,aC];rintro rfl;rw[nW] at hq;rcases hq with hq | hq
    ·cases hex:c.ex with
     | nil=>rw[hex] at ha;cases ha
     | cons _ _=>rw[hex] at hq;cases hq
    ·simp only[tT,hx] at hq;have:=cJ.1 hq a ha;rw[hab] at this;simp[bE] at this
   ·cases hh
  ·cases hh
 unfold lJ at h;split at h
 ·exact go h
 ·split at h
  ·rcases sP h with⟨hc,h⟩ | ⟨hc,h⟩
   ·exact go h
   ·simp only[aS,bC] at h;obtain⟨_,rfl,rfl⟩:=h;exact⟨rfl,λ_ _ _ _ _=>rfl⟩
  ·simp only[aS,bC] at h;obtain⟨_,rfl,rfl⟩:=h;exact⟨rfl,λ_ _ _ _ _=>rfl⟩
theorem kmp {c:COp} {tm:Tr AV} {H H':Tr Blk} {nx nx':Nat} {v:AV} {f:FuncId} {xs:List Opd} (hj:c.j=.h (.call f xs)) (h:lJ call ro c tm H nx=some (v,H',nx')):
  ∀a∈c.ex,∀b o,bV tm a=.ptr b o->H'.get b=H.get b:=by
 have go:lS call ro c tm H nx=some (v,H',nx')->∀a∈c.ex,∀b o,bV tm a=.ptr b o->H'.get b=H.get b:=by
  intro hh a ha;unfold lS at hh;simp only[hj] at hh;have hne:(c.ex.isEmpty||tT (bV tm) (.call f xs) c.ex)=false:=by
   cases hex:c.ex with
   | nil=>rw[hex] at ha;cases ha
   | cons _ _=>rfl
  rw[hne] at hh;simp only[aG] at hh;unfold T9 at hh;rw[hj] at hh;obtain⟨hq,hh⟩:=G8 hh;split at hh<;>try (cases hh;done)
  simp only[eW] at hh;obtain⟨H2,hb,e1⟩:=hh;cases e1;exact(jd2 hb).2 a ha
 unfold lJ at h;split at h
 ·exact go h
 ·split at h
  ·rcases sP h with⟨hc,h⟩ | ⟨hc,h⟩
   ·exact go h
   ·simp only[aS,bC] at h;obtain⟨_,rfl,rfl⟩:=h;exact λ_ _ _ _ _=>rfl
  ·simp only[aS,bC] at h;obtain⟨_,rfl,rfl⟩:=h;exact λ_ _ _ _ _=>rfl
theorem j9v {z rr k:Nat} {H H':Tr Blk} {nx nx':Nat} {x v:AV} {new:List AV} (h:oW z rr H nx x k new=some (v,H',nx')):
  nx<=nx'/\∀b,b<nx->(∀b0 o n c z0,x=.sl b0 o n c z0->b≠b0)->H'.get b=H.get b:=by
 unfold oW at h;split at h
 ·rcases sP h with⟨_,h⟩ | ⟨_,h⟩
  ·cases h;exact⟨bQ _,λ_ _ _=>rfl⟩
  ·rw[mP] at h;cases h;exact⟨by omega,λb hb _=>by rw[Tr.get_set,aC (by omega)]⟩
 ·rename_i b o len cap z';rcases sP h with⟨_,h⟩ | ⟨_,h⟩
  ·cases h
  rcases sP h with⟨_,h⟩ | ⟨_,h⟩
  ·cases h;exact⟨bQ _,λ_ _ _=>rfl⟩
  split at h
  ·rename_i c m hb;simp only at h;rcases sP h with⟨_,h⟩ | ⟨_,h⟩
   ·obtain⟨_,h⟩:=bS h;simp only[oY,pS,aS,bC] at h;obtain⟨_,rfl,rfl⟩:=h;exact⟨bQ _,λb1 _ hne=>by rw[Tr.get_set,aC (hne _ _ _ _ _ rfl)]⟩
   ·split at h
    ·cases h
    ·split at h
     ·rw[mP] at h;cases h;exact⟨by omega,λb1 hb1 _=>by rw[Tr.get_set,aC (by omega)]⟩
     ·obtain⟨_,h⟩:=bS h;rw[Tr.delK_eq,mP] at h;cases h;refine⟨by omega,λb1 hb1 hne=>?_⟩;rw[Tr.get_set,aC (by omega),Tr.get_del,aC (hne _ _ _ _ _ rfl)]
  ·cases h
 ·cases h
theorem j3s {c:COp} {tm:Tr AV} {H H':Tr Blk} {nx nx':Nat} {v:AV} (hj:c.isApp=true) (h:lJ call ro c tm H nx=some (v,H',nx')):
  ∀a∈c.ex,∀b,b<nx->((∃o,bV tm a=.ptr b o)\/∃o n cp z,bV tm a=.sl b o n cp z)->H'.get b=H.get b:=by
 obtain⟨z,bytes,x,y,hj⟩:∃z bytes x y,c.j=.h (.app z bytes x y):=by
  unfold COp.isApp at hj;split at hj
  ·rename_i e;exact⟨_,_,_,_,e⟩
  ·cases hj
 have go:lS call ro c tm H nx=some (v,H',nx')->∀a∈c.ex,∀b,b<nx->((∃o,bV tm a=.ptr b o)\/∃o n cp z,bV tm a=.sl b o n cp z)->H'.get b=H.get b:=by
  intro hh a ha b hb hv;unfold lS at hh;simp only[hj] at hh;obtain⟨hq,hh⟩:=jol (by rintro f xs e;rw[hj] at e;cases e) hh;have hex:tT (bV tm) (.app z bytes x y) c.ex=true:=by
   rw[nW] at hq;rcases hq with hq | hq
   ·cases hex:c.ex with
    | nil=>rw[hex] at ha;cases ha
    | cons _ _=>rw[hex] at hq;cases hq
   ·exact hq
  simp only[hop] at hh;split at hh<;>try (cases hh;done)
  obtain⟨_,hh⟩:=bS hh;split at hh<;>try (cases hh;done)
  obtain⟨_,hh⟩:=bS hh;refine(j9v hh).2 b hb λb0 o n c0 z0 e=>?_
  simp only[tT,e] at hex;have:=cJ.1 hex a ha;rintro rfl;rcases hv with⟨o',hv⟩ | ⟨o',n',cp',z',hv⟩
  ·rw[hv] at this;simp[bE] at this
  ·rw[hv] at this;simp[bE] at this
 unfold lJ at h;split at h
 ·exact go h
 ·split at h
  ·rcases sP h with⟨hc,h⟩ | ⟨hc,h⟩
   ·exact go h
   ·simp only[aS,bC] at h;obtain⟨_,rfl,rfl⟩:=h;exact λ_ _ _ _ _=>rfl
  ·simp only[aS,bC] at h;obtain⟨_,rfl,rfl⟩:=h;exact λ_ _ _ _ _=>rfl
theorem kmq {c:COp} {tm:Tr AV} {H H':Tr Blk} {nx nx':Nat} {v:AV} (hj:c.lays=true) (h:lJ call ro c tm H nx=some (v,H',nx')):
  ∃HE,lJ call ro c tm .e nx=some (v,HE,nx')/\(∀b,nx<=b->b<nx'->HE.get b=H'.get b)/\(nx'=nx\/(nx'=nx+1/\((∃o,v=.ptr nx o)\/∃o n cp z,v=.sl nx o n cp z))):=by
 have nc:∀ {l:List AV} {f:Nat->AV},xI l f H nx=some (v,H',nx')->((∃o,f nx=.ptr nx o)\/∃o n cp z,f nx=.sl nx o n cp z)->∃HE,xI l f .e nx=some (v,HE,nx')/\(∀b,nx<=b->b<nx'->HE.get b=H'.get b)/\(nx'=nx\/(nx'=nx+1/\((∃o,v=.ptr nx o)\/∃o n cp z,v=.sl nx o n cp z))):=by
  intro l f hh hf;rw[mP] at hh ⊢;cases hh;refine⟨_,rfl,λb h1 h2=>?_,.inr ⟨rfl,hf⟩⟩;have:b=nx:=by omega
  subst this;simp[Tr.get_set]
 have go:lS call ro c tm H nx=some (v,H',nx')->∃HE,lS call ro c tm .e nx=some (v,HE,nx')/\(∀b,nx<=b->b<nx'->HE.get b=H'.get b)/\(nx'=nx\/(nx'=nx+1/\((∃o,v=.ptr nx o)\/∃o n cp z,v=.sl nx o n cp z))):=by
  intro hh;unfold lS at hh ⊢;unfold COp.lays at hj;split at hj<;>try (cases hj;done)
  all_goals
   rename_i hc;simp only[hc] at hh ⊢;obtain⟨hq,hh⟩:=jol (by rintro f xs e;rw[hc] at e;cases e) hh;rw[hq];simp only[aF,hop] at hh ⊢
  ·exact nc hh (.inl ⟨_,rfl⟩)
  ·exact nc hh (.inl ⟨_,rfl⟩)
  ·rcases sP hh with⟨_,hh⟩ | ⟨h1,hh⟩
   ·cases hh
   ·rw[h1];simp only[aG];split at hh
    ·obtain⟨h2,hh⟩:=bS hh;rw[h2];exact nc hh (.inr ⟨_,_,_,_,rfl⟩)
    ·cases hh
  ·split at hh
   ·obtain⟨h2,hh⟩:=bS hh;rw[h2];exact nc hh (.inr ⟨_,_,_,_,rfl⟩)
   ·cases hh
  ·cases hh
 unfold lJ at h ⊢;split at h
 ·exact go h
 ·rename_i t want hg;split at h
  ·rename_i b hb;rcases sP h with⟨hc,h⟩ | ⟨hc,h⟩
   ·obtain⟨HE,a1,a2⟩:=go h;exact⟨HE,by simp[hc,a1],a2⟩
   ·simp only[aS,bC] at h;obtain⟨rfl,rfl,rfl⟩:=h;exact⟨.e,by simp[hc],λb h1 h2=>by omega,.inl rfl⟩
  ·simp only[aS,bC] at h;obtain⟨rfl,rfl,rfl⟩:=h;exact⟨.e,rfl,λb h1 h2=>by omega,.inl rfl⟩
end
def tv (l:List COp) (V:Nat->AV) (tm0:Tr AV) (S:Nat->Prop) [DecidablePred S]:Nat->Nat->AV
 | 0,t=>bV tm0 (.t t)
 | k+1,t=>if S k/\(l[k]?).bind (·.dst)=some t then V k else tv l V tm0 S k t
section
variable {l:List COp} {V:Nat->AV} {tm0:Tr AV} {S:Nat->Prop} [DecidablePred S]
theorem jwb {t:Nat} {i:Nat}:∀(d:Nat),(∀k,i<=k->k<i+d->S k->(l[k]?).bind (·.dst)≠some t)->tv l V tm0 S (i+d) t=tv l V tm0 S i t
 | 0,_=>rfl
 | d+1,h=>by
   rw[show i+ (d+1)=(i+d)+1 by omega,tv,aC]
   ·exact jwb d λk h1 h2=>h k h1 (by omega)
   ·rintro ⟨h1,h2⟩;exact h (i+d) (by omega) (by omega) h1 h2
theorem jwa {call:FuncId->List AV->Tr Blk->Nat->Nat->dR} {ro:Nat} {T:Nat->St} (tr:Trace call ro l T V) (h0:(T 0).1=tm0) {t:Nat}:∀(i:Nat),i<=l.length->
  (∀k,k<i->(l[k]?).bind (·.dst)=some t->S k)->bV (T i).1 (.t t)=tv l V tm0 S i t
 | 0,_,_=>by rw[h0];rfl
 | i+1,hi,h=>by
   obtain⟨c,hc⟩:∃c,l[i]?=some c:=⟨l[i],by simp[show i<l.length by omega]⟩
   obtain⟨_,h2⟩:=tr.step i c hc;have ih:=jwa tr h0 i (by omega) λk h1 h2=>h k (by omega) h2
   rw[h2,tv];by_cases hd:(l[i]?).bind (·.dst)=some t
   ·rw[aH ⟨h i (by omega) hd,hd⟩];rw[hc] at hd;simp only[aB] at hd;rw[hd];simp[qK,yL]
   ·rw[aC (λh=>hd h.2),<-ih];rw[hc] at hd;simp only[aB] at hd;cases hdst:c.dst with
    | none=>rfl
    | some d=>
      rw[hdst] at hd;simp only[qK,yL];rw[aC (λe=>hd (by rw[e]))]
theorem j52 {S':Nat->Prop} [DecidablePred S'] {t:Nat}:∀(m:Nat),(∀k,k<m->(l[k]?).bind (·.dst)=some t->(S k↔S' k))->tv l V tm0 S m t=tv l V tm0 S' m t
 | 0,_=>rfl
 | m+1,h=>by
   simp only[tv];rw[j52 m λk h1 h2=>h k (by omega) h2];by_cases hd:(l[m]?).bind (·.dst)=some t
   ·have:=h m (by omega) hd;simp[hd,this]
   ·simp[hd]
theorem kob {t i m:Nat} (hi:i<m) (h1:S i) (h2:(l[i]?).bind (·.dst)=some t) (h:∀k,i<k->k<m->S k->(l[k]?).bind (·.dst)≠some t):tv l V tm0 S m t=V i:=by
 obtain⟨d,rfl⟩:∃d,m=i+1+d:=⟨m-(i+1),by omega⟩
 rw[jwb d λk g1 g2=>h k (by omega) (by omega)];simp[tv,h1,h2]
end
theorem jy5:∀(l:List Bool) (i:Nat),l[i]?=some false->(l.set i true).count false+1=l.count false
 | [],i,h=>by simp at h
 | b::l,0,h=>by
   simp only[xK,aS] at h;subst h;simp[qiv]
 | b::l,i+1,h=>by
   simp only[O8] at h;have:=jy5 l i h;simp only[qgb,qiv];omega
end Go.Vm
