/- Parts of the proof. -/
import Derived.Test.YtccefhabickfiaaGreatDoorVmZH
set_option linter.unusedSimpArgs false
set_option linter.defProp false
set_option linter.unusedVariables false
namespace Go.Vm
structure Trace (call:FuncId->List AV->Tr Blk->Nat->Nat->bN) (ro:Nat) (l:List COp) (T:Nat->St) (V:Nat->AV):Prop where
 step:∀k c,l[k]?=some c->gH call ro c (T k).1 (T k).2.1 (T k).2.2=some (V k,(T (k+1)).2.1,(T (k+1)).2.2)/\(T (k+1)).1=kY c.dst (V k) (T k).1
def jq2 {call:FuncId->List AV->Tr Blk->Nat->Nat->bN} {ro:Nat}:∀(l:List COp) (s s':St),jR call ro l s=some s'->∃T V,T 0=s/\T l.length=s'/\Trace call ro l T V
 | [],s,s',h=>by
   obtain⟨tm,H,nx⟩:=s;simp only[jR,aG] at h;exact⟨λ_=>s',λ_=>.nili,h.symm,rfl,⟨λk c hk=>by simp at hk⟩⟩
 | o::l,(tm,H,nx),s',h=>by
   obtain⟨v,H1,nx1,h1,h2⟩:=jc3 h;obtain⟨T,V,t1,t2,t3⟩:=jq2 l _ s' h2;refine⟨λk=>match k with | 0=>(tm,H,nx) | k+1=>T k,λk=>match k with | 0=>v | k+1=>V k,rfl,t2,⟨λk c hk=>?_⟩⟩;cases k with
   | zero=>
     simp only[pR,aG] at hk;subst hk;simp only[t1];exact⟨h1,trivial⟩
   | succ k=>exact t3.step k c (by simpa using hk)
section
variable {call:FuncId->List AV->Tr Blk->Nat->Nat->bN} {ro:Nat}
def Sk {c:COp} {tm:Tr AV} {H:Tr Blk} {nx:Nat} {p:Bool} {x:bN} {r:AV×Tr Blk×Nat} (hj:∀f xs,c.j≠ .h (.call f xs)) (h:(bif p then x else wV call ro c tm H nx)=some r):p=true/\x=some r:=by
 cases p with
 | true=>exact⟨rfl,h⟩
 | false=>
   simp only[aF] at h;unfold wV at h;split at h
   ·rename_i e;exact absurd e (hj _ _)
   ·cases h
def jo7 {c:COp} {tm:Tr AV} {H H':Tr Blk} {nx nx':Nat} {v:AV} (hp:c.isP=true) (h:gH call ro c tm H nx=some (v,H',nx')):
  H'=H/\nx'=nx/\∀H2 nx2,gH call ro c tm H2 nx2=some (v,H2,nx2):=by
 unfold COp.isP at hp;split at hp
 ·rename_i i hi;unfold gH gM at h ⊢;simp only[hi] at h ⊢;split at h
  ·rename_i hg;split at h
   ·rename_i v0 hv;simp only[aG,aM] at h;obtain⟨rfl,rfl,rfl⟩:=h;exact⟨rfl,rfl,λ_ _=>rfl⟩
   ·cases h
  ·rename_i t want hg;split at h
   ·rename_i b hb;rcases mR h with⟨hc,h⟩ | ⟨hc,h⟩
    ·split at h
     ·rename_i v0 hv;simp only[aG,aM] at h;obtain⟨rfl,rfl,rfl⟩:=h;exact⟨rfl,rfl,λ_ _=>by simp[hc]⟩
     ·cases h
    ·simp only[aG,aM] at h;obtain⟨rfl,rfl,rfl⟩:=h;exact⟨rfl,rfl,λ_ _=>by simp[hc]⟩
   ·simp only[aG,aM] at h;obtain⟨rfl,rfl,rfl⟩:=h;exact⟨rfl,rfl,λ_ _=>rfl⟩
 ·cases hp
def hop_load {g:Opd->AV} {agg:Bool} {n:Nat} {x:Opd} {H H':Tr Blk} {nx nx' r:Nat} {v:AV} (h:hop call r g H nx (.load agg n x)=some (v,H',nx')):
  H'=H/\nx'=nx/\(∃b o,g x=.ptr b o/\(H.get b).isSome)/\∀(H2:Tr Blk) nx2 r2,(∀b o,g x=.ptr b o->H2.get b=H.get b)->hop call r2 g H2 nx2 (.load agg n x)=some (v,H2,nx2):=by
 simp only[hop] at h ⊢;split at h
 ·rename_i b o hx;split at h
  ·rename_i c m hb;obtain⟨hq,h⟩:=aR h;split at h
   ·rename_i l hl;split at h
    ·rename_i v0 hv;simp only[aG,aM] at h;obtain⟨rfl,rfl,rfl⟩:=h;refine⟨rfl,rfl,⟨b,o,hx,by rw[hb];rfl⟩,λH2 nx2 r2 h2=>?_⟩;rw[h2 b o hx,hb];simp[hq,hl,hv]
    ·cases h
   ·cases h
  ·cases h
 ·cases h
def jo6 {c:COp} {tm:Tr AV} {H H':Tr Blk} {nx nx':Nat} {v:AV} {x:Opd} (hp:c.loadAt=some x) (h:gH call ro c tm H nx=some (v,H',nx')):
  H'=H/\nx'=nx/\∀(H2:Tr Blk) nx2,(∀b o,aT tm x=.ptr b o->(H.get b).isSome->H2.get b=H.get b)->gH call ro c tm H2 nx2=some (v,H2,nx2):=by
 unfold COp.loadAt at hp;split at hp
 ·rename_i agg n x0 hj;cases hp;have go:gM call ro c tm H nx=some (v,H',nx')->H'=H/\nx'=nx/\∀(H2:Tr Blk) nx2,(∀b o,aT tm x=.ptr b o->(H.get b).isSome->H2.get b=H.get b)->gM call ro c tm H2 nx2=some (v,H2,nx2):=by
   intro hh;unfold gM at hh ⊢;simp only[hj] at hh ⊢;obtain⟨hq,hh⟩:=Sk (by rintro f xs e;rw[hj] at e;cases e) hh;obtain⟨a1,a2,⟨b0,o0,a3,a5⟩,a4⟩:=hop_load hh;refine⟨a1,a2,λH2 nx2 h2=>?_⟩;rw[hq];exact a4 H2 nx2 (bif c.q then nx2 else ro) λb o hb=>h2 b o hb (by rw[a3] at hb;cases hb;exact a5)
  unfold gH at h ⊢;split at h
  ·exact go h
  ·rename_i t want hg;split at h
   ·rename_i b hb;rcases mR h with⟨hc,h⟩ | ⟨hc,h⟩
    ·obtain⟨a1,a2,a3⟩:=go h;exact⟨a1,a2,λH2 nx2 h2=>by simp[hc,a3 H2 nx2 h2]⟩
    ·simp only[aG,aM] at h;obtain⟨rfl,rfl,rfl⟩:=h;exact⟨rfl,rfl,λ_ _ _=>by simp[hc]⟩
   ·simp only[aG,aM] at h;obtain⟨rfl,rfl,rfl⟩:=h;exact⟨rfl,rfl,λ_ _ _=>rfl⟩
 ·cases hp
def j67 {c:COp} {tm:Tr AV} {H H':Tr Blk} {nx nx':Nat} {v:AV} {n:Nat} {x y:Opd} (hj:c.j=.h (.store n x y)) (h:gH call ro c tm H nx=some (v,H',nx')):
  nx'=nx/\∀a∈c.ex,∀b o,aT tm a=.ptr b o->H'.get b=H.get b:=by
 have go:gM call ro c tm H nx=some (v,H',nx')->nx'=nx/\∀a∈c.ex,∀b o,aT tm a=.ptr b o->H'.get b=H.get b:=by
  intro hh;unfold gM at hh;simp only[hj] at hh;obtain⟨hq,hh⟩:=Sk (by rintro f xs e;rw[hj] at e;cases e) hh;simp only[hop] at hh;split at hh
  ·rename_i b o hx;split at hh
   ·rename_i ct m hb;obtain⟨hq2,hh⟩:=aR hh;simp only[jP,kJ,aG,aM] at hh;obtain⟨_,rfl,rfl⟩:=hh;refine⟨rfl,λa ha b' o' hab=>?_⟩;rw[Tr.get_set,aD];rintro rfl;rw[kD] at hq;rcases hq with hq | hq
    ·cases hex:c.ex with
     | nil=>rw[hex] at ha;cases ha
     | cons _ _=>rw[hex] at hq;cases hq
    ·simp only[nB,hx] at hq;have:=bS.1 hq a ha;rw[hab] at this;simp[aL] at this
   ·cases hh
  ·cases hh
 unfold gH at h;split at h
 ·exact go h
 ·split at h
  ·rcases mR h with⟨hc,h⟩ | ⟨hc,h⟩
   ·exact go h
   ·simp only[aG,aM] at h;obtain⟨_,rfl,rfl⟩:=h;exact⟨rfl,λ_ _ _ _ _=>rfl⟩
  ·simp only[aG,aM] at h;obtain⟨_,rfl,rfl⟩:=h;exact⟨rfl,λ_ _ _ _ _=>rfl⟩
def j65 {c:COp} {tm:Tr AV} {H H':Tr Blk} {nx nx':Nat} {v:AV} {f:FuncId} {xs:List Opd} (hj:c.j=.h (.call f xs)) (h:gH call ro c tm H nx=some (v,H',nx')):
  ∀a∈c.ex,∀b o,aT tm a=.ptr b o->H'.get b=H.get b:=by
 have go:gM call ro c tm H nx=some (v,H',nx')->∀a∈c.ex,∀b o,aT tm a=.ptr b o->H'.get b=H.get b:=by
  intro hh a ha;unfold gM at hh;simp only[hj] at hh;have hne:(c.ex.isEmpty||nB (aT tm) (.call f xs) c.ex)=false:=by
   cases hex:c.ex with
   | nil=>rw[hex] at ha;cases ha
   | cons _ _=>rfl
  rw[hne] at hh;simp only[aF] at hh;unfold wV at hh;rw[hj] at hh;obtain⟨hq,hh⟩:=tU hh;split at hh<;>try (cases hh;done)
  simp only[cX] at hh;obtain⟨H2,hb,e1⟩:=hh;cases e1;exact(Dd hb).2 a ha
 unfold gH at h;split at h
 ·exact go h
 ·split at h
  ·rcases mR h with⟨hc,h⟩ | ⟨hc,h⟩
   ·exact go h
   ·simp only[aG,aM] at h;obtain⟨_,rfl,rfl⟩:=h;exact λ_ _ _ _ _=>rfl
  ·simp only[aG,aM] at h;obtain⟨_,rfl,rfl⟩:=h;exact λ_ _ _ _ _=>rfl
def jvb {z rr k:Nat} {H H':Tr Blk} {nx nx':Nat} {x v:AV} {new:List AV} (h:jM z rr H nx x k new=some (v,H',nx')):
  nx<=nx'/\∀b,b<nx->(∀b0 o n c z0,x=.sl b0 o n c z0->b≠b0)->H'.get b=H.get b:=by
 unfold jM at h;split at h
 ·rcases mR h with⟨_,h⟩ | ⟨_,h⟩
  ·cases h;exact⟨aU _,λ_ _ _=>rfl⟩
  ·rw[iA] at h;cases h;exact⟨by omega,λb hb _=>by rw[Tr.get_set,aD (by omega)]⟩
 ·rename_i b o len cap z';rcases mR h with⟨_,h⟩ | ⟨_,h⟩
  ·cases h
  rcases mR h with⟨_,h⟩ | ⟨_,h⟩
  ·cases h;exact⟨aU _,λ_ _ _=>rfl⟩
  split at h
  ·rename_i c m hb;simp only at h;rcases mR h with⟨_,h⟩ | ⟨_,h⟩
   ·obtain⟨_,h⟩:=aR h;simp only[jP,kJ,aG,aM] at h;obtain⟨_,rfl,rfl⟩:=h;exact⟨aU _,λb1 _ hne=>by rw[Tr.get_set,aD (hne _ _ _ _ _ rfl)]⟩
   ·split at h
    ·cases h
    ·split at h
     ·rw[iA] at h;cases h;exact⟨by omega,λb1 hb1 _=>by rw[Tr.get_set,aD (by omega)]⟩
     ·obtain⟨_,h⟩:=aR h;rw[Tr.delK_eq,iA] at h;cases h;refine⟨by omega,λb1 hb1 hne=>?_⟩;rw[Tr.get_set,aD (by omega),Tr.get_del,aD (hne _ _ _ _ _ rfl)]
  ·cases h
 ·cases h
def jo5 {c:COp} {tm:Tr AV} {H H':Tr Blk} {nx nx':Nat} {v:AV} (hj:c.isApp=true) (h:gH call ro c tm H nx=some (v,H',nx')):
  ∀a∈c.ex,∀b,b<nx->((∃o,aT tm a=.ptr b o)\/∃o n cp z,aT tm a=.sl b o n cp z)->H'.get b=H.get b:=by
 obtain⟨z,bytes,x,y,hj⟩:∃z bytes x y,c.j=.h (.app z bytes x y):=by
  unfold COp.isApp at hj;split at hj
  ·rename_i e;exact⟨_,_,_,_,e⟩
  ·cases hj
 have go:gM call ro c tm H nx=some (v,H',nx')->∀a∈c.ex,∀b,b<nx->((∃o,aT tm a=.ptr b o)\/∃o n cp z,aT tm a=.sl b o n cp z)->H'.get b=H.get b:=by
  intro hh a ha b hb hv;unfold gM at hh;simp only[hj] at hh;obtain⟨hq,hh⟩:=Sk (by rintro f xs e;rw[hj] at e;cases e) hh;have hex:nB (aT tm) (.app z bytes x y) c.ex=true:=by
   rw[kD] at hq;rcases hq with hq | hq
   ·cases hex:c.ex with
    | nil=>rw[hex] at ha;cases ha
    | cons _ _=>rw[hex] at hq;cases hq
   ·exact hq
  simp only[hop] at hh;split at hh<;>try (cases hh;done)
  obtain⟨_,hh⟩:=aR hh;split at hh<;>try (cases hh;done)
  obtain⟨_,hh⟩:=aR hh;refine(jvb hh).2 b hb λb0 o n c0 z0 e=>?_
  simp only[nB,e] at hex;have:=bS.1 hex a ha;rintro rfl;rcases hv with⟨o',hv⟩ | ⟨o',n',cp',z',hv⟩
  ·rw[hv] at this;simp[aL] at this
  ·rw[hv] at this;simp[aL] at this
 unfold gH at h;split at h
 ·exact go h
 ·split at h
  ·rcases mR h with⟨hc,h⟩ | ⟨hc,h⟩
   ·exact go h
   ·simp only[aG,aM] at h;obtain⟨_,rfl,rfl⟩:=h;exact λ_ _ _ _ _=>rfl
  ·simp only[aG,aM] at h;obtain⟨_,rfl,rfl⟩:=h;exact λ_ _ _ _ _=>rfl
def j66 {c:COp} {tm:Tr AV} {H H':Tr Blk} {nx nx':Nat} {v:AV} (hj:c.lays=true) (h:gH call ro c tm H nx=some (v,H',nx')):
  ∃HE,gH call ro c tm .e nx=some (v,HE,nx')/\(∀b,nx<=b->b<nx'->HE.get b=H'.get b)/\(nx'=nx\/(nx'=nx+1/\((∃o,v=.ptr nx o)\/∃o n cp z,v=.sl nx o n cp z))):=by
 have nc:∀ {l:List AV} {f:Nat->AV},pN l f H nx=some (v,H',nx')->((∃o,f nx=.ptr nx o)\/∃o n cp z,f nx=.sl nx o n cp z)->∃HE,pN l f .e nx=some (v,HE,nx')/\(∀b,nx<=b->b<nx'->HE.get b=H'.get b)/\(nx'=nx\/(nx'=nx+1/\((∃o,v=.ptr nx o)\/∃o n cp z,v=.sl nx o n cp z))):=by
  intro l f hh hf;rw[iA] at hh ⊢;cases hh;refine⟨_,rfl,λb h1 h2=>?_,.inr ⟨rfl,hf⟩⟩;have:b=nx:=by omega
  subst this;simp[Tr.get_set]
 have go:gM call ro c tm H nx=some (v,H',nx')->∃HE,gM call ro c tm .e nx=some (v,HE,nx')/\(∀b,nx<=b->b<nx'->HE.get b=H'.get b)/\(nx'=nx\/(nx'=nx+1/\((∃o,v=.ptr nx o)\/∃o n cp z,v=.sl nx o n cp z))):=by
  intro hh;unfold gM at hh ⊢;unfold COp.lays at hj;split at hj<;>try (cases hj;done)
  all_goals
   rename_i hc;simp only[hc] at hh ⊢;obtain⟨hq,hh⟩:=Sk (by rintro f xs e;rw[hc] at e;cases e) hh;rw[hq];simp only[aB,hop] at hh ⊢
  ·exact nc hh (.inl ⟨_,rfl⟩)
  ·exact nc hh (.inl ⟨_,rfl⟩)
  ·rcases mR hh with⟨_,hh⟩ | ⟨h1,hh⟩
   ·cases hh
   ·rw[h1];simp only[aF];split at hh
    ·obtain⟨h2,hh⟩:=aR hh;rw[h2];exact nc hh (.inr ⟨_,_,_,_,rfl⟩)
    ·cases hh
  ·split at hh
   ·obtain⟨h2,hh⟩:=aR hh;rw[h2];exact nc hh (.inr ⟨_,_,_,_,rfl⟩)
   ·cases hh
  ·cases hh
 unfold gH at h ⊢;split at h
 ·exact go h
 ·rename_i t want hg;split at h
  ·rename_i b hb;rcases mR h with⟨hc,h⟩ | ⟨hc,h⟩
   ·obtain⟨HE,a1,a2⟩:=go h;exact⟨HE,by simp[hc,a1],a2⟩
   ·simp only[aG,aM] at h;obtain⟨rfl,rfl,rfl⟩:=h;exact⟨.e,by simp[hc],λb h1 h2=>by omega,.inl rfl⟩
  ·simp only[aG,aM] at h;obtain⟨rfl,rfl,rfl⟩:=h;exact⟨.e,rfl,λb h1 h2=>by omega,.inl rfl⟩
end
def tv (l:List COp) (V:Nat->AV) (tm0:Tr AV) (S:Nat->Prop) [DecidablePred S]:Nat->Nat->AV
 | 0,t=>aT tm0 (.t t)
 | k+1,t=>if S k/\(l[k]?).bind (·.dst)=some t then V k else tv l V tm0 S k t
section
variable {l:List COp} {V:Nat->AV} {tm0:Tr AV} {S:Nat->Prop} [DecidablePred S]
def jez {t:Nat} {i:Nat}:∀(d:Nat),(∀k,i<=k->k<i+d->S k->(l[k]?).bind (·.dst)≠some t)->tv l V tm0 S (i+d) t=tv l V tm0 S i t
 | 0,_=>rfl
 | d+1,h=>by
   rw[show i+ (d+1)=(i+d)+1 by omega,tv,aD]
   ·exact jez d λk h1 h2=>h k h1 (by omega)
   ·rintro ⟨h1,h2⟩;exact h (i+d) (by omega) (by omega) h1 h2
def jey {call:FuncId->List AV->Tr Blk->Nat->Nat->bN} {ro:Nat} {T:Nat->St} (tr:Trace call ro l T V) (h0:(T 0).1=tm0) {t:Nat}:∀(i:Nat),i<=l.length->
  (∀k,k<i->(l[k]?).bind (·.dst)=some t->S k)->aT (T i).1 (.t t)=tv l V tm0 S i t
 | 0,_,_=>by rw[h0];rfl
 | i+1,hi,h=>by
   obtain⟨c,hc⟩:∃c,l[i]?=some c:=⟨l[i],by simp[show i<l.length by omega]⟩
   obtain⟨_,h2⟩:=tr.step i c hc;have ih:=jey tr h0 i (by omega) λk h1 h2=>h k (by omega) h2
   rw[h2,tv];by_cases hd:(l[i]?).bind (·.dst)=some t
   ·rw[aK ⟨h i (by omega) hd,hd⟩];rw[hc] at hd;simp only[aO] at hd;rw[hd];simp[kY,qQ]
   ·rw[aD (λh=>hd h.2),<-ih];rw[hc] at hd;simp only[aO] at hd;cases hdst:c.dst with
    | none=>rfl
    | some d=>
      rw[hdst] at hd;simp only[kY,qQ];rw[aD (λe=>hd (by rw[e]))]
def jq5 {S':Nat->Prop} [DecidablePred S'] {t:Nat}:∀(m:Nat),(∀k,k<m->(l[k]?).bind (·.dst)=some t->(S k↔S' k))->tv l V tm0 S m t=tv l V tm0 S' m t
 | 0,_=>rfl
 | m+1,h=>by
   simp only[tv];rw[jq5 m λk h1 h2=>h k (by omega) h2];by_cases hd:(l[m]?).bind (·.dst)=some t
   ·have:=h m (by omega) hd;simp[hd,this]
   ·simp[hd]
def j93 {t i m:Nat} (hi:i<m) (h1:S i) (h2:(l[i]?).bind (·.dst)=some t) (h:∀k,i<k->k<m->S k->(l[k]?).bind (·.dst)≠some t):tv l V tm0 S m t=V i:=by
 obtain⟨d,rfl⟩:∃d,m=i+1+d:=⟨m-(i+1),by omega⟩
 rw[jez d λk g1 g2=>h k (by omega) (by omega)];simp[tv,h1,h2]
end
def jim:∀(l:List Bool) (i:Nat),l[i]?=some false->(l.set i true).count false+1=l.count false
 | [],i,h=>by simp at h
 | b::l,0,h=>by
   simp only[pR,aG] at h;subst h;simp[qg3]
 | b::l,i+1,h=>by
   simp only[vO] at h;have:=jim l i h;simp only[List.set_cons_succ,qg3];omega
end Go.Vm
