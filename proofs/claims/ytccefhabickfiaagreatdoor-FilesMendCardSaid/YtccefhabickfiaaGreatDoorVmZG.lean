/- Parts of the proof. -/
import Derived.Test.YtccefhabickfiaaGreatDoorVmZF
set_option linter.unusedSimpArgs false
set_option linter.defProp false
set_option linter.unusedVariables false
namespace Go.Vm
section
variable {P:Program} {gl:List Nat} {ρ:RM}
def vJ {g g':Opd->AV} {o:Option Opd} (h:∀x∈yC o,g x=g' x):o.map g=o.map g':=by
 cases o with
 | none=>rfl
 | some x=>simp[h x (by simp[yC])]
def jn7 {g g':Opd->AV} {ps:List (Nat×Nat×Opd)} (h:∀x∈ps.map (·.2.2),g x=g' x):(ps.map fun(o,s,x)=>(o,s,g x))=(ps.map fun(o,s,x)=>(o,s,g' x)):=by
 apply oM;rintro ⟨o,s,x⟩ hx;have:=h x (bU.2 ⟨_,hx,rfl⟩);simp[this]
def j46 {g g':Opd->AV} (i:I) (h:∀x∈i.opds,g x=g' x):bD g i=bD g' i:=by
 cases i<;>simp only[I.opds,bL,aZ,gW,gU] at h<;>simp only[bD]
 case build z ps=>rw[jn7 h]
 case mkfn f a b=>
  rw[oM λx hx=>h x (.inl hx),oM λx hx=>h x (.inr hx)]
 case slS z x lo hi mx=>
  rw[h x (.inl rfl),vJ λy hy=>h y (.inr (.inl (.inl hy))),vJ λy hy=>h y (.inr (.inl (.inr hy))),vJ λy hy=>h y (.inr (.inr hy))]
 case slT x lo hi=>
  rw[h x (.inl rfl),vJ λy hy=>h y (.inr (.inl hy)),vJ λy hy=>h y (.inr (.inr hy))]
 case mins x xs=>rw[h x (.inl rfl),oM λy hy=>h y (.inr hy)]
 case maxs x xs=>rw[h x (.inl rfl),oM λy hy=>h y (.inr hy)]
 case pick c a b=>rw[h c (.inl rfl),h a (.inr (.inl rfl)),h b (.inr (.inr rfl))]
 case bin op x y=>rw[h x (.inl rfl),h y (.inr rfl)]
 case eqf n agg ks x y=>rw[h x (.inl rfl),h y (.inr rfl)]
 case eqn n kd x y=>rw[h x (.inl rfl),h y (.inr rfl)]
 case iadA n z x y=>rw[h x (.inl rfl),h y (.inr rfl)]
 case iadS z x y=>rw[h x (.inl rfl),h y (.inr rfl)]
 case idxA agg n z x y=>rw[h x (.inl rfl),h y (.inr rfl)]
 case idxS x y=>rw[h x (.inl rfl),h y (.inr rfl)]
 all_goals first | rfl | rw[h _ rfl]
def jkf {call:FuncId->List AV->Tr Blk->Nat->Nat->bN} {ro:Nat} {H:Tr Blk} {nx:Nat} {g g':Opd->AV} (i:I) (h:∀x∈i.opds,g x=g' x):hop call ro g H nx i=hop call ro g' H nx i:=by
 cases i<;>simp only[I.opds,bL,aZ,gW,gU] at h<;>simp only[hop]
 case bsl z n zs ps=>rw[jn7 h]
 case slA n z x lo hi mx=>
  rw[h x (.inl rfl),vJ λy hy=>h y (.inr (.inl (.inl hy))),vJ λy hy=>h y (.inr (.inl (.inr hy))),vJ λy hy=>h y (.inr (.inr hy))]
 case store n x y=>rw[h x (.inl rfl),h y (.inr rfl)]
 case app z b x y=>rw[h x (.inl rfl),h y (.inr rfl)]
 case copy z x y=>rw[h x (.inl rfl),h y (.inr rfl)]
 case mksl z b zs x y=>rw[h x (.inl rfl),h y (.inr rfl)]
 case call f xs=>rw[oM λy hy=>h y hy]
 case calld f xs=>rw[h f (.inl rfl),oM λy hy=>h y (.inr hy)]
 case xrow n xs=>rw[oM λy hy=>h y hy]
 case mkmap r=>rw[vJ λy hy=>h y hy]
 case mlook a ks z ok x y=>rw[h x (.inl rfl),h y (.inr rfl)]
 case mset a ks x y z=>rw[h x (.inl rfl),h y (.inr (.inl rfl)),h z (.inr (.inr rfl))]
 all_goals first | rfl | rw[h _ rfl]
structure TR (ρ:RM) (nt:Nat) (tm:Tr AV) (a:Act):Prop where
 size:a.tmps.size=nt
 val:∀n,VR ρ (aT tm (.t n)) (a.tmps.getD n undef)
def TR.mono {ρ ρ':RM} (h:ρ.Le ρ') {nt:Nat} {tm:Tr AV} {a:Act} (t:TR ρ nt tm a):TR ρ' nt tm a:=⟨t.size,λn=>VR.mono h _ _ (t.val n)⟩
def kY (d:Option Nat) (v:AV) (tm:Tr AV):Tr AV:=match d with
 | none=>tm
 | some d=>tm.set d v
def qQ (tm:Tr AV) (d:Nat) (v:AV) (n:Nat):aT (tm.set d v) (.t n)=if n=d then v else aT tm (.t n):=by
 simp only[aT,Tr.get_set];split<;>rfl
def TR.put {nt:Nat} {tm:Tr AV} {a:Act} {d:Option Nat} {v:AV} {v':Value} (t:TR ρ nt tm a) (hd:Ju d nt=true) (hv:VR ρ v v'):TR ρ nt (kY d v tm) (a.put d v'):=by
 cases d with
 | none=>exact t
 | some d=>
   have hd':d<nt:=by simpa[Ju] using hd
   refine⟨by simpa[Act.put] using t.size,λn=>?_⟩;simp only[kY,qQ,Act.put,Tc,vN];by_cases h:n=d
   ·subst h;rw[aK rfl,aK rfl,aK (by rw[t.size];exact hd')];exact hv
   ·rw[aD h,aD (vT h)];have:=t.val n;rwa[Tc] at this
def So {nt:Nat} {tm:Tr AV} {a:Act} (t:TR ρ nt tm a) (hgl:GLok gl ρ) (x:Operand) (y:Opd) (h:bT gl x=some y):VR ρ (aT tm y) (a.eval x):=by
 cases x with
 | tmp n=>
   simp only[bT,aG] at h;subst h;exact t.val n
 | const v=>
   simp only[bT,cX] at h;obtain⟨w,h1,rfl⟩:=h;exact jcg ρ h1
 | global g=>
   simp only[bT] at h;split at h
   ·rename_i hg;cases h;obtain⟨l,h1,h2,h3⟩:=hgl g hg;simp only[aT,VR];exact⟨l,h1,by rw[h2,h3];rfl⟩
   ·cases h
 | func f=>
   simp only[bT,aG] at h;subst h;simp only[aT,VR];exact⟨#[],#[],rfl,rfl,rfl⟩
structure CompOp (P:Program) (gl:List Nat) (nt:Nat) (ops:Array Oper) (o:Oper) (c:COp):Prop where
 j:c.j=(uS P gl o.op).getD (.h .bad)
 dst:c.dst=o.dst
 lt:Ju c.dst nt=true
 guard:o.guard=none/\c.guard=none\/∃k want t,o.guard=some (k,want)/\(ops[k]?).bind (·.dst)=some t/\t<nt/\c.guard=some (t,want)
def jik {nt:Nat} {ops:Array Oper} {o:Oper} {c:COp} (h:tO P gl nt ops o=some c):CompOp P gl nt ops o c/\c.q=false/\c.ex=[]:=by
 simp only[tO] at h;split at h
 ·rename_i hb;split at h
  ·rename_i hg;cases h;exact⟨⟨rfl,rfl,hb,.inl ⟨hg,rfl⟩⟩,rfl,rfl⟩
  ·rename_i k want hg;split at h
   ·rename_i t ht;split at h
    ·rename_i hlt;cases h;exact⟨⟨rfl,rfl,hb,.inr ⟨k,want,t,hg,ht,hlt,rfl⟩⟩,rfl,rfl⟩
    ·cases h
   ·cases h
 ·cases h
def roOf (c:COp) (nx ro:Nat):Nat:=bif c.q then nx else ro
def Gk {c:COp} {nx ro:Nat} (h:ro<=nx):ro<=roOf c nx ro/\roOf c nx ro<=nx:=by
 unfold roOf;cases c.q
 ·exact⟨aU _,h⟩
 ·exact⟨h,aU _⟩
def Step.weaken {ρ':RM} {H H':Tr Blk} {nx nx' ro ro':Nat} {w w':World} (s:Step ρ H nx ro' w ρ' H' nx' w') (h:ro<=ro'):Step ρ H nx ro w ρ' H' nx' w' where
 os:=s.os
 tape:=s.tape
 output:=s.output
 size:=s.size
 up:=s.up
 ext:=s.ext
 keep x hx hk:=s.keep x hx λb l h1 h2 h3=>by have:=hk b l h1 h2 h3;omega
 fresh b l h1 h2 h3:=(s.fresh b l h1 h2 h3).imp id fun⟨b0,l0,g1,g2⟩=>⟨b0,l0,by omega,g2⟩
 live:=s.live
 old b h1 h2:=s.old b (by omega) h2
def kav {nt:Nat} {tm:Tr AV} {a:Act} (t:TR ρ nt tm a) {ops:Array Oper} {k n:Nat} (h:(ops[k]?).bind (·.dst)=some n) (hn:n<nt):
  yielded ops a.tmps k=match aT tm (.t n) with | .bool b=>some b | _=>none:=by
 have hv:=t.val n;have hs:a.tmps[n]?=some (a.tmps.getD n undef):=by
  rw[Tc,mA (by rw[t.size];exact hn)];rfl
 unfold yielded;rw[h];simp only[aO,hs];cases hq:aT tm (.t n)<;>rw[hq] at hv<;>simp only[VR] at hv
 case bool b=>rw[hv]
 all_goals first
  | (rw[hv];done)
  | (obtain⟨_,e,_⟩:=hv;rw[e];done)
  | (obtain⟨_,_,e⟩:=hv;rw[e];done)
  | (obtain⟨_,_,e,_⟩:=hv;rw[e];done)
  | (obtain⟨_,_,_,_,e,_⟩:=hv;rw[e];done)
def aR {α:Type} {c:Bool} {x:Option α} {y:α} (h:(bif c then x else none)=some y):c=true/\x=some y:=by
 cases c
 ·cases h
 ·exact⟨rfl,h⟩
def tU {α:Type} {c:Bool} {x:Option α} {y:α} (h:(bif c then none else x)=some y):c=false/\x=some y:=by
 cases c
 ·exact⟨rfl,h⟩
 ·cases h
def mR {α:Type} {c:Bool} {x y z:α} (h:(bif c then x else y)=z):c=true/\x=z\/c=false/\y=z:=by
 cases c
 ·exact .inr ⟨rfl,h⟩
 ·exact .inl ⟨rfl,h⟩
def jn8:∀ {l m:List AV},Fo l m=true->l=m
 | [],[],_=>rfl
 | .ptr b o::l,.ptr b' o'::m,h=>by
   simp only[Fo,aN,aL,aH] at h;obtain⟨⟨rfl,rfl⟩,h⟩:=h;rw[jn8 h]
def jy1 {v v':AV} (h:Du v v'=true):v=v':=by
 unfold Du at h;split at h
 ·rename_i f l f' m;simp only[aN,aL,aH] at h;obtain⟨rfl,h⟩:=h;rw[jn8 h]
 ·cases h
def jgf (k k':Option Blk):Prop:=∃c c' v,k=some (.cells c 1)/\k'=some (.cells c' 1)/\c.get 0=some v/\c'.get 0=some v
def j69 {k k':Option Blk} (h:Mg k k'=true):jgf k k':=by
 unfold Mg at h;split at h
 ·rename_i c c';split at h
  ·rename_i v v' h1 h2;have:=jy1 h;subst this;exact⟨c,c',v,rfl,rfl,h1,h2⟩
  ·cases h
 ·cases h
def Dd {g:Opd->AV} {H:Tr Blk}:∀ {ex:List Opd} {H' H2:Tr Blk},rX g H ex H'=some H2->
  (∀b,H2.get b=H'.get b\/(H2.get b=H.get b/\jgf (H.get b) (H'.get b)))/\∀a∈ex,∀b o,g a=.ptr b o->H2.get b=H.get b
 | [],H',H2,h=>by
   cases h;exact⟨λb=>.inl rfl,λa ha=>by cases ha⟩
 | x::ex,H',H2,h=>by
   simp only[rX] at h;split at h<;>try (cases h;done)
   rename_i b0 o0 hx;obtain⟨hs,h⟩:=aR h;split at h<;>try (cases h;done)
   rename_i k hk;obtain⟨k1,k2⟩:=Dd h;have hsim:=j69 hs;have at0:H2.get b0=H.get b0:=by
    rcases k1 b0 with h1 | ⟨h1,_⟩
    ·rw[h1,Tr.get_set,aK rfl,hk]
    ·exact h1
   refine⟨λb=>?_,λa ha b o hab=>?_⟩
   ·by_cases hb:b=b0
    ·subst hb;exact .inr ⟨at0,hsim⟩
    ·have:=k1 b;rw[Tr.get_set,aD hb] at this;exact this
   ·rcases bL.1 ha with rfl | ha
    ·rw[hx] at hab;cases hab;exact at0
    ·exact k2 a ha b o hab
def Pj {g:Opd->AV} {H:Tr Blk} {ex:List Opd} {H' H2:Tr Blk} (h:rX g H ex H'=some H2) (b:Nat):(H2.get b).isSome->(H'.get b).isSome:=by
 intro hb;rcases(Dd h).1 b with h1 | ⟨_,c,c',v,_,h2,_⟩
 ·rw[<-h1];exact hb
 ·rw[h2];rfl
def Ends.back {g:Opd->AV} {ex:List Opd} {H H' H2:Tr Blk} {nx nx' ro:Nat} {w w':World} {v:AV} {v':Value} (e:Ends ρ H nx ro w v H' nx' v' w') (hb:rX g H ex H'=some H2):Ends ρ H nx ro w v H2 nx' v' w':=by
 obtain⟨ρ',s,hr,hv⟩:=e;obtain⟨k1,_⟩:=Dd hb;refine⟨ρ',⟨s.os,s.tape,s.output,s.size,s.up,s.ext,s.keep,s.fresh,λb h=>s.live b (Pj hb b h),λb h1 h2=>?_⟩,⟨λb k l hk hl=>?_,λb b' l l' h1 h2=>hr.inj b b' l l' (Pj hb b h1) (Pj hb b' h2)⟩,hv⟩
 ·rcases k1 b with h3 | ⟨h3,_⟩
  ·rw[h3];exact s.old b h1 h2
  ·exact h3
 ·rcases k1 b with h3 | ⟨h3,c,c',u,e1,e2,e3,e4⟩
  ·rw[h3] at hk;exact hr.blk b k l hk hl
  ·rw[h3,e1] at hk;cases hk;obtain⟨cs,elem,fr,q1,q2,q3,q4,q5⟩:=hr.blk b _ l e2 hl;refine⟨cs,elem,fr,q1,q2,q3,q4,λi hi=>?_⟩;obtain rfl:i=0:=by omega
   obtain⟨a,y,r1,r2,r3⟩:=q5 0 hi;rw[e4] at r1;cases r1;exact⟨u,y,e3,r2,r3⟩
def Kv {call:FuncId->List AV->Tr Blk->Nat->Nat->bN} (hcall:lS P gl call) {nt:Nat} {ops:Array Oper} {o:Oper} {c:COp} (hc:CompOp P gl nt ops o c)
  {tm tmS:Tr AV} {H H':Tr Blk} {nx nx' ro:Nat} {v:AV} {w:World} {a:Act} (h:gH call ro c tm H nx=some (v,H',nx')) (hag:∀t∈c.uses,aT tm (.t t)=aT tmS (.t t))
  (ht:TR ρ nt tmS a) (hgl:GLok gl ρ) (hr:HR ρ H w) (hf:Free ρ nx nx') (hro:ro<=nx) (hwf:WF H nx) {K:Act->World->Prop} {Q:Exit->Act->World->Prop}
  (hK:∀v' w',Ends ρ H nx (roOf c nx ro) w v H' nx' v' w'->K (a.put o.dst v') w'):
  if Region.wanted o (yielded ops a.tmps) then o.wp P a w K Q else K (a.put o.dst undef) w:=by
 have hg:=So ht hgl;have skip:v=.tup []->H'=H->nx'=nx->K (a.put o.dst undef) w:=by
  rintro rfl rfl rfl;refine hK _ _ (Ends.same hr ?_);simp only[VR];exact⟨#[],rfl,rfl⟩
 have agx:∀x∈c.j.i.opds,aT tm x=aT tmS x:=by
  intro x hx;cases x with
  | c v=>rfl
  | t n=>
    refine hag n ?_;unfold COp.uses;refine aZ.2 (.inl ?_);exact yK.2 ⟨_,hx,rfl⟩
 have go:gM call ro c tm H nx=some (v,H',nx')->o.wp P a w K Q:=by
  intro hj;unfold gM at hj;have hcj:=hc.j;cases hcp:uS P gl o.op with
  | none=>
    rw[hcp] at hcj;simp only[Option.getD_none] at hcj;rw[hcj] at hj;simp only[hop] at hj;cases hx:(c.ex.isEmpty||nB (aT tm) I.bad c.ex) with
    | true=>simp[hx] at hj
    | false=>
      simp only[hx,aF] at hj;unfold wV at hj;rw[hcj] at hj;cases hj
  | some j=>
    rw[hcp] at hcj;simp only[nL] at hcj;rw[hcj] at hj agx;unfold uS at hcp;split at hcp
    ·rename_i i hi;cases hcp;simp only at hj;split at hj
     ·rename_i v0 hv0;simp only[aG,aM] at hj;obtain⟨rfl,rfl,rfl⟩:=hj;rw[j46 i agx] at hv0;obtain⟨v',h1,h2⟩:=j47 (P:=P) w hg hi hv0;unfold Oper.wp;rw[h1];exact hK _ _ (Ends.same hr h2)
     ·cases hj
    ·simp only[cX] at hcp;obtain⟨i,hi,rfl⟩:=hcp;simp only at hj;cases hx:(c.ex.isEmpty||nB (aT tm) i c.ex)<;>simp only[hx,aB,aF] at hj
     ·unfold wV at hj;rw[hcj] at hj;split at hj<;>try (cases hj;done)
      rename_i f xs hi2;cases hi2;obtain⟨hq,hj⟩:=tU hj;split at hj<;>try (cases hj;done)
      rename_i v1 H1 nx1 hh;simp only[cX] at hj;obtain⟨H2,hb,e1⟩:=hj;cases e1;rw[jkf (.call f xs) agx] at hh;have hro':roOf c nx ro=ro:=by unfold roOf;rw[hq];rfl
      rw[hro'] at hK;exact(jkg hcall hg (λf=>rfl) hi hh hr hf hro hgl hwf).wp λv' w' he=>hK v' w' (he.back hb)
     ·rw[jkf i agx] at hj;exact(jkg hcall hg (λf=>rfl) hi hj hr hf (Gk (c:=c) hro).2 hgl hwf).wp hK
 unfold gH at h;rcases hc.guard with⟨g1,g2⟩ | ⟨k,want,t,g1,g2,g3,g4⟩
 ·rw[g2] at h;simp only at h;rw[show Region.wanted o (yielded ops a.tmps)=true from by simp[Region.wanted,g1]];simp only[bR];exact go h
 ·rw[g4] at h;simp only at h;have hu:t∈c.uses:=by
   unfold COp.uses;rw[g4];simp
  have hy:=kav ht g2 g3;rw[<-hag t hu] at hy;have hw:Region.wanted o (yielded ops a.tmps)=(yielded ops a.tmps k==some want):=by simp[Region.wanted,g1]
  rw[hw,hy];split at h
  ·rename_i b hb;rw[hb];simp only;cases hbw:(b==want)<;>simp only[hbw,aB,aF] at h
   ·simp only[aG,aM] at h;rw[show((some b:Option Bool)==some want)=false from by simpa using hbw];simp only[fX,cO];exact skip h.1.symm h.2.1.symm h.2.2.symm
   ·rw[show((some b:Option Bool)==some want)=true from by simpa using hbw];simp only[bR];exact go h
  ·rename_i hnb;simp only[aG,aM] at h;have:(match aT tm (.t t) with | .bool b=>some b | _=>none)=(none:Option Bool):=by
    cases hq:aT tm (.t t)<;>first | rfl | (exact absurd hq (hnb _))
   rw[this];simp only[show((none:Option Bool)==some want)=false from rfl,fX,cO];exact skip h.1.symm h.2.1.symm h.2.2.symm
end
end Go.Vm
