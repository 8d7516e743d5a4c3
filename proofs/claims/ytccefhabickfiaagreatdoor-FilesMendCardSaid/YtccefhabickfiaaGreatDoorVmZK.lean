/- Parts of the proof. -/
import Derived.Test.YtccefhabickfiaaGreatDoorVmZJ
set_option linter.unusedSimpArgs false
set_option linter.unusedVariables false
namespace Go.Vm
theorem j0w {P:Program} {gl:List Nat} {op:Op} {agg:Bool} {n:Nat} {x:Opd} (h:uS P gl op=some (.h (.load agg n x))):∃y,bT gl y=some x:=by
 unfold uS at h;split at h
 ·simp at h
 ·simp only[cX,J.h.injEq,exists_eq_right] at h;cases op
  case load y t=>
   simp only[jX,fS,dN,cX,I.load.injEq] at h;obtain⟨s,_,z,hz,_,_,rfl⟩:=h;exact⟨_,hz⟩
  all_goals (exfalso;simp only[jX] at h;(repeat' split at h)<;>first | (rename_i e _;cases e;done) | (rename_i e;cases e;done) | (simp[dN] at h;done) | skip)
  all_goals (rename_i e _;cases e)
section
variable {P:Program} {gl:List Nat} {nt:Nat} {ops:Array Oper} {ms:List COp} {an:List Nat} {call:FuncId->List AV->Tr Blk->Nat->Nat->bN} {ro:Nat} {T:Nat->St} {V:Nat->AV}
variable {ρ0:RM} {w0:World} {a0:Act}
theorem Al {listed:Array Bool} {i k:Nat} (hi:i<listed.size):(listed.setIfInBounds i true)[k]?=some true↔k=i\/listed[k]?=some true:=by
 rw[vN];by_cases h:i=k
 ·subst h;simp[hi]
 ·simp[h,vT h]
theorem Inv.next (D:Drawn P gl nt ops ms an)
  {listed:Array Bool} {ρ ρ':RM} {tmS:Tr AV} {a:Act} {w w':World} {m m' i:Nat} (I:Inv gl nt ops ms an ro T V ρ0 w0 a0 listed ρ tmS a w m) {o:Oper} {c:COp} (ho:ops[i]?=some o) (hc:ms[i]?=some c)
  (hi:listed[i]?=some false) (hready:∀e∈o.after.toList,Region.binds .any e=true->listed[e.on]?=some true)
  (hlater:∀k x,i<k->ms[k]?=some x->listed[k]?=some true->sL c x=true)
  {H H':Tr Blk} {cH cH':Nat} {v':Value} (s:Step ρ H cH ro w ρ' H' cH' w') (hf:Free ρ cH cH') (h1:(T 0).2.2<=cH) (h2:cH'<=(T ms.length).2.2) (hwf:WF H cH)
  (hl:∀b,(H.get b).isSome->(T 0).2.2<=b\/((T 0).2.1.get b).isSome) (hrange:∀b,cH<=b->b<cH'->(T i).2.2<=b/\b< (T (i+1)).2.2)
  (hr:HR ρ' (T m').2.1 w') (hv:VR ρ' (V i) v') (hm1:m'=0\/∃k c,m'=k+1/\(k=i\/listed[k]?=some true)/\ms[k]?=some c/\c.still=false)
  (hm2:∀k c,(k=i\/listed[k]?=some true)->ms[k]?=some c->c.still=false->k<m'):
  Inv gl nt ops ms an ro T V ρ0 w0 a0 (listed.setIfInBounds i true) ρ' (kY c.dst (V i) tmS) (a.put o.dst v') w' m':=by
 have his:i<listed.size:=(eJ.1 hi).1;have hin:i<ms.length:=(jG.1 hc).1;have hle:=s.le hf;have hcomp:=D.comp i o c ho hc;refine⟨by simp[I.sz],?_,?_,?_,?_,?_,hr,I.part.step s h1 h2 hwf hl,?_,I.gl.mono hle,?_⟩
 ·intro j k hj hk ht;rw[Al his] at hj ⊢;rcases hj with rfl | hj
  ·obtain⟨e,he,hb,h3⟩:=D.anc j k o ho hk ht;have hre:=hready e he hb;rcases h3 with h3 | h3
   ·exact .inr (h3▸hre)
   ·exact .inr (I.clo e.on k hre hk h3)
  ·exact .inr (I.clo j k hj hk ht)
 ·rw[<-hcomp.dst];exact(I.tr.mono hle).put hcomp.lt hv
 ·intro t;have hset:∀k,k≠i->((listed.setIfInBounds i true)[k]?=some true↔listed[k]?=some true):=λk hk=>by rw[Al his];simp[hk]
  by_cases hd:c.dst=some t
  ·rw[j93 (i:=i) hin ((Al his).2 (.inl rfl)) (by rw[hc];exact hd) ?_]
   ·rw[hd];simp[kY,qQ]
   ·intro k hk hkn hS hdk;have hck:ms[k]?=some ms[k]:=by simp
    rw[hset k (by omega)] at hS;have:=jcl (hlater k _ hk hck hS);rw[hck] at hdk;exact((Yf this).1 t hd).2 hdk
  ·rw[jq5 (S':=λk=>listed[k]?=some true) ms.length λk hk hdk=>hset k (by rintro rfl;rw[hc] at hdk;exact hd hdk),<-I.val t];cases hdst:c.dst with
   | none=>rfl
   | some d=>
     simp only[kY,qQ];rw[aD (λe=>hd (by rw[hdst,e]))]
 ·rcases hm1 with h | ⟨k,ck,h3,h4,h5,h6⟩
  ·exact .inl h
  ·exact .inr ⟨k,ck,h3,(Al his).2 h4,h5,h6⟩
 ·intro k ck hk;exact hm2 k ck ((Al his).1 hk)
 ·intro b l hb;have u:=s.up;by_cases hbc:b<cH\/cH'<=b
  ·rw[s.ext b hbc] at hb;rcases I.dom b l hb with h | h | ⟨k,h3,h4⟩
   ·exact .inl h
   ·exact .inr (.inl h)
   ·exact .inr (.inr ⟨k,(Al his).2 (.inr h3),h4⟩)
  ·exact .inr (.inr ⟨i,(Al his).2 (.inl rfl),hrange b (by omega) (by omega)⟩)
 ·rw[<-I.dfr];cases o.dst<;>rfl
theorem Inv.step (hcall:lS P gl call) (hsyn:iY call) (D:Drawn P gl nt ops ms an) (tr:Trace call ro ms T V) (hro:ro<=(T 0).2.2) (hwf0:WF (T 0).2.1 (T 0).2.2)
  {listed:Array Bool} {ρ:RM} {tmS:Tr AV} {a:Act} {w:World} {m i:Nat} (I:Inv gl nt ops ms an ro T V ρ0 w0 a0 listed ρ tmS a w m) {o:Oper} {c:COp} (ho:ops[i]?=some o) (hc:ms[i]?=some c)
  (hi:listed[i]?=some false) (hready:∀e∈o.after.toList,Region.binds .any e=true->listed[e.on]?=some true) {K:Act->World->Prop} {Q:Exit->Act->World->Prop}
  (hK:∀ρ' tmS' a' w' m',Inv gl nt ops ms an ro T V ρ0 w0 a0 (listed.setIfInBounds i true) ρ' tmS' a' w' m'->K a' w'):
  if Region.wanted o (yielded ops a.tmps) then o.wp P a w K Q else K (a.put o.dst undef) w:=by
 have hin:i<ms.length:=(jG.1 hc).1;have hget:∀k,k<ms.length->ms[k]?=some (ms.getD k c):=λk hk=>by simp[jF,hk]
 have hlisted:∀k,listed[k]?=some true->k<ms.length:=λk hk=>by have:=(eJ.1 hk).1;rw[D.len,<-I.sz];exact this
 have hcomp:=D.comp i o c ho hc;have miss:∀k x,k<i->ms[k]?=some x->listed[k]?≠some true->sL x c=true:=by
  intro k x hk hx hS;have hkn:k<ms.length:=(jG.1 hx).1;cases ht:(an.getD i 0).testBit k with
  | false=>exact D.pair k i x c hk hx hc ht
  | true=>
    obtain⟨e,he,hb,h3⟩:=D.anc i k o ho (by rw[<-D.len];exact hkn) ht;have hre:=hready e he hb;rcases h3 with h3 | h3
    ·exact absurd (h3▸hre) hS
    ·exact absurd (I.clo e.on k hre (by rw[<-D.len];exact hkn) h3) hS
 have later:∀k x,i<k->ms[k]?=some x->listed[k]?=some true->sL c x=true:=by
  intro k x hk hx hS;cases ht:(an.getD k 0).testBit i with
  | false=>exact D.pair i k c x hk hc hx ht
  | true=>
    have:=I.clo k i hS (by rw[<-D.len];exact hin) ht;rw[hi] at this;cases this
 have hmn:m<=ms.length:=by
  rcases I.mval with h | ⟨k,ck,h1,h2,_⟩
  ·omega
  ·have:=hlisted k h2;omega
 have agree:∀t∈c.uses,aT (T i).1 (.t t)=aT tmS (.t t):=by
  intro t ht;rw[I.val t,jey tr rfl (S:=λk=>listed[k]?=some true) i (by omega) (λk hk hd=>?_)]
  ·obtain⟨d,hd⟩:∃d,ms.length=i+d:=⟨ms.length-i,by omega⟩
   rw[hd];symm
   refine jez d λk h1 h2 hS hdk=>?_
   by_cases hki:k=i
   ·rw[hki,hi] at hS;cases hS
   ·have hx:=hget k (by omega);have:=(Yf (jcl (later k _ (by omega) hx hS))).2 t (by rw[hx] at hdk;exact hdk);exact this ht
  ·have hx:=hget k (by omega);rw[hx] at hd;refine sO λhS=>?_
   exact((Yf (jcl (miss k _ hk hx hS))).1 t hd).1 ht
 have wfk:=λk hk=>tr.wf hsyn hwf0 k hk
 have mono:=λj k (h:j<=k) hk=>tr.mono hsyn (j:=j) (k:=k) h hk
 have hrun:=(tr.step i c hc).1;have below:∀b l,ρ b=some l->b< (T ms.length).2.2->b< (T m).2.2:=by
  intro b l hb hlt;rcases I.dom b l hb with h | h | ⟨k,h1,h2,h3⟩
  ·exact kB h (mono 0 m (by omega) hmn)
  ·omega
  ·have hk:=hlisted k h1;have hx:=hget k hk;cases hs:(ms.getD k c).still with
   | true=>rw[(tr.still hx hs).2] at h3;omega
   | false=>
     have:=I.mlt k _ h1 hx hs;exact kB h3 (mono (k+1) m (by omega) hmn)
 have free:Free ρ (T i).2.2 (T (i+1)).2.2:=by
  intro b h1 h2;cases hb:ρ b with
  | none=>rfl
  | some l=>
    rcases I.dom b l hb with h | h | ⟨k,h3,h4,h5⟩
    ·have:=mono 0 i (by omega) (by omega);omega
    ·have:=mono (i+1) ms.length (by omega) (by omega);omega
    ·have hk:=hlisted k h3;by_cases hki:k=i
     ·rw[hki,hi] at h3;cases h3
     ·by_cases hlt:k<i
      ·have:=mono (k+1) i (by omega) (by omega);omega
      ·have:=mono (i+1) k (by omega) (by omega);omega
 have early:∀k x,m<=k->k<i->ms[k]?=some x->x.still=false->sL x c=true:=by
  intro k x h1 h2 hx hs;refine miss k x h2 hx λhS=>?_
  have:=I.mlt k x hS hx hs;omega
 have late:∀k x,i<k->k<m->ms[k]?=some x->x.still=false->x.q=true\/sL c x=true:=by
  intro k x h1 h2 hx hs;by_cases hS:listed[k]?=some true
  ·exact .inr (later k x h1 hx hS)
  ·rcases I.mval with h | ⟨k',c',h3,h4,h5,h6⟩
   ·omega
   ·have hkk:k<k':=by
     have:k≠k':=by rintro rfl;exact hS h4
     omega
    have hp:sL x c'=true:=by
     refine D.pair k k' x c' hkk hx h5 ?_;cases ht:(an.getD k' 0).testBit k with
     | false=>rfl
     | true=>exact absurd (I.clo k' k h4 (by rw[<-D.len];omega) ht) hS
    exact .inl (Ky hp hs h6).1
 cases hst:c.still with
 | true=>
   have hrunm:gH call ro c (T i).1 (T m).2.1 (T m).2.2=some (V i,(T m).2.1,(T m).2.2):=by
    have hst':=hst;unfold COp.still at hst';rw[kD] at hst';rcases hst' with hp | hp
    ·exact(jo7 hp hrun).2.2 _ _
    ·obtain⟨x,hx⟩:=jl4 hp;refine(jo6 hx hrun).2.2 _ _ λb o' hb hs=>?_
     have hbi:=wfk i (by omega) b hs;obtain⟨agg,n,hj⟩:∃agg n,c.j=.h (.load agg n x):=by
      unfold COp.loadAt at hx;split at hx
      ·rename_i agg n x' hj;cases hx;exact⟨agg,n,hj⟩
      ·cases hx
     have hbS:aT tmS x=.ptr b o':=by
      cases x with
      | c v=>exact hb
      | t q=>
        rw[<-agree q ?_]
        ·exact hb
        ·unfold COp.uses;refine aZ.2 (.inl (yK.2 ⟨.t q,?_,rfl⟩));rw[hj];simp[J.i,_root_.Go.Vm.I.opds]
     have hcop:uS P gl o.op=some (.h (.load agg n x)):=by
      have:=hcomp.j;rw[hj] at this;cases hq:uS P gl o.op with
      | none=>rw[hq] at this;cases this
      | some j=>rw[hq] at this;simp only[nL] at this;rw[<-this]
     obtain⟨y,hy⟩:=j0w hcop;have hvr:=So I.tr I.gl y x hy;rw[hbS] at hvr;simp only[VR] at hvr;obtain⟨l,hl,_⟩:=hvr;have hbn:b< (T ms.length).2.2:=kB hbi (mono i ms.length (by omega) (by omega));have hbm:=below b l hl hbn;have hcs:c.isP=false:=by unfold COp.isP;rw[hj]
     have hca:c.isApp=false:=by unfold COp.isApp;rw[hj]
     by_cases hmi:m<=i
     ·obtain⟨d,rfl⟩:∃d,i=m+d:=⟨i-m,by omega⟩
      refine(tr.same hsyn hbm d (by omega) λk x' h1 h2 hx' hs'=>?_).symm;have hp':=early k x' h1 h2 hx' hs';obtain⟨y1,y2⟩:=Sd hs';have hl':x'.loadAt=none:=by
       cases hl2:x'.loadAt with
       | none=>rfl
       | some z=>rw[jkz hl2] at y2;cases y2
      have:=(kO hp').2;simp only[y1,hcs,hl',hca,qg6,oO,Bn] at this;exact .inl (kO this).1
     ·obtain⟨d,rfl⟩:∃d,m=i+d:=⟨m-i,by omega⟩
      refine tr.same hsyn hbi d (by omega) λk x' h1 h2 hx' hs'=>?_
      have hik:i<k:=by
       have:k≠i:=by
        rintro rfl;rw[hc] at hx';cases hx';rw[hst] at hs';cases hs'
       omega
      rcases late k x' hik h2 hx' hs' with h | h
      ·exact .inl h
      ·have h3:=(kO h).2;obtain⟨y1,y2⟩:=Sd hs';simp only[y1,hcs,hx,oO,Bn,kD] at h3;rcases h3 with h3 | h3
       ·exact .inl (kO h3).2
       ·right;have atk:∀q1,x=.t q1->Opd.t q1∈x'.ex->aT (T k).1 (.t q1)=.ptr b o':=by
         intro q1 hxq hz;subst hxq;have hkeep:∀(e:Nat),i+e<=k->aT (T (i+e)).1 (.t q1)=.ptr b o':=by
          intro e;induction e with
          | zero=>intro _;exact hb
          | succ e ih=>
            intro he;have hxe:=hget (i+e) (by omega);have:=D.kept k x' q1 i c hx' hz hik hc hx (i+e) _ (by omega) (by omega) hxe;rw[show i+ (e+1)=i+e+1 by omega,(tr.step _ _ hxe).2];cases hdd:(ms.getD (i+e) c).dst with
            | none=>exact ih (by omega)
            | some d'=>
              simp only[kY,qQ];rw[aD (λe'=>this (by rw[hdd,e']))];exact ih (by omega)
         have hk2:=hkeep (k-i) (by omega);rw[show i+ (k-i)=k by omega] at hk2;exact hk2
        have pick:∀ {l:List Opd},l.any (Mi x)=true->∃q1,x=.t q1/\Opd.t q1∈l:=by
         intro l hl;obtain⟨z,hz,hz2⟩:=Ga.1 hl;cases x with
         | c v=>cases z<;>cases hz2
         | t q1=>
           cases z with
           | c v=>cases hz2
           | t q2=>
             have e:q1=q2:=by simpa[Mi] using hz2
             subst e;exact⟨_,rfl,hz⟩
        split at h3
        ·rename_i n' x1 y1' hjs;obtain⟨q1,hxq,hz⟩:=pick h3;exact(j67 hjs (tr.step k x' hx').1).2 _ hz b o' (atk q1 hxq hz)
        ·rename_i z1 b1 x1 y1' hjs;obtain⟨q1,hxq,hz⟩:=pick h3;have happ:x'.isApp=true:=by unfold COp.isApp;rw[hjs]
         exact jo5 happ (tr.step k x' hx').1 _ hz b (kB hbi (mono i k (by omega) (by omega))) (.inl ⟨_,atk q1 hxq hz⟩)
        ·rename_i f1 xs1 hjs;obtain⟨q1,hxq,hz⟩:=pick h3;exact j65 hjs (tr.step k x' hx').1 _ hz b o' (atk q1 hxq hz)
        ·cases h3
   refine Kv hcall hcomp hrunm agree I.tr I.gl I.hr (λb h1 h2=>by omega) (eA hro (mono 0 m (by omega) hmn)) (wfk m hmn) ?_;rintro v' w' ⟨ρ',s,hr,hv⟩;have s':=s.weaken (Gk (c:=c) (eA hro (mono 0 m (by omega) hmn))).1;refine hK _ _ _ _ m (I.next D ho hc hi hready later s' (λb h1 h2=>by omega) (mono 0 m (by omega) hmn) (mono m ms.length hmn (by omega)) (wfk m hmn) (tr.live hsyn m hmn) (λb h1 h2=>by omega) hr hv ?_ ?_)
   ·rcases I.mval with h | ⟨k,ck,h1,h2,h3⟩
    ·exact .inl h
    ·exact .inr ⟨k,ck,h1,.inr h2,h3⟩
   ·intro k ck hk hck hs;rcases hk with rfl | hk
    ·rw[hc] at hck;cases hck;rw[hst] at hs;cases hs
    ·exact I.mlt k ck hk hck hs
 | false=>
   have hroi:=eA hro (mono 0 i (by omega) (by omega));have hin':=mono (i+1) ms.length (by omega) (by omega);by_cases hmi:m<=i
   ·
    have heq:∀b l,ρ b=some l->b< (T i).2.2->(T i).2.1.get b=(T m).2.1.get b:=by
     intro b l hl hb;have hbm:=below b l hl (kB hb (mono i ms.length (by omega) (by omega)));obtain⟨d,rfl⟩:∃d,i=m+d:=⟨i-m,by omega⟩
     exact tr.same hsyn hbm d (by omega) λk x' h1 h2 hx' hs'=>.inl (Ky (early k x' h1 h2 hx' hs') hs' hst).1
    have hr0:HR ρ (T i).2.1 w:=by
     refine⟨λb k l hb hl=>?_,λb b' l l' h1 h2 h3 h4 h5=>?_⟩
     ·refine I.hr.blk b k l ?_ hl;rw[<-heq b l hl (wfk i (by omega) b (by rw[hb];rfl))];exact hb
     ·refine I.hr.inj b b' l l' ?_ ?_ h3 h4 h5
      ·rw[<-heq b l h3 (wfk i (by omega) b h1)];exact h1
      ·rw[<-heq b' l' h4 (wfk i (by omega) b' h2)];exact h2
    refine Kv hcall hcomp hrun agree I.tr I.gl hr0 free hroi (wfk i (by omega)) ?_;rintro v' w' ⟨ρ',s,hr,hv⟩;have s':=s.weaken (Gk (c:=c) hroi).1;refine hK _ _ _ _ (i+1) (I.next D ho hc hi hready later s' free (mono 0 i (by omega) (by omega)) hin' (wfk i (by omega)) (tr.live hsyn i (by omega)) (λb h1 h2=>⟨h1,h2⟩) hr hv ?_ ?_)
    ·exact .inr ⟨i,c,rfl,.inl rfl,hc,hst⟩
    ·intro k ck hk hck hs;rcases hk with rfl | hk
     ·omega
     ·have:=I.mlt k ck hk hck hs;omega
   ·have hq:c.q=true:=by
     rcases I.mval with h | ⟨k,ck,h1,h2,h3,h4⟩
     ·omega
     ·have hki:k≠i:=by rintro rfl;rw[hi] at h2;cases h2
      exact(Ky (later k ck (by omega) h3 h2) hst h4).1
    by_cases hlay:c.lays=true
    ·obtain⟨HE,hrunE,hnewE,hone⟩:=j66 hlay hrun;have hroq:roOf c (T i).2.2 ro=(T i).2.2:=by rw[roOf,hq];rfl
     have hrE:HR ρ Tr.e w:=⟨λb k l hb _=>(by cases hb),λb b' l l' h1 _ _ _ _=>(by cases h1)⟩
     refine Kv hcall hcomp hrunE agree I.tr I.gl hrE free hroi (λb hb=>by cases hb) ?_;rintro v' w' ⟨ρ',s,hr,hv⟩;have hle:=s.le free;have s':=s.weaken (Gk (c:=c) hroi).1;rw[hroq] at s;have kept:∀x,x<w.heap.size->w'.heap[x]?=w.heap[x]?:=λx hx=>s.keep x hx λb l _ _ hb=>by cases hb
     have hnew:∀b l,(T i).2.2<=b->b< (T (i+1)).2.2->ρ' b=some l->w.heap.size<=l.blk:=by
      intro b l h1 h2 hl;rcases s.fresh b l h1 h2 hl with⟨h3,_⟩ | ⟨b0,l0,h3,h4,_⟩
      ·exact h3
      ·cases h4
     have stay:∀b,(T i).2.2<=b->b< (T (i+1)).2.2->(T m).2.1.get b=(T (i+1)).2.1.get b:=by
      intro b h1 h2;obtain⟨d,hd⟩:∃d,m=i+1+d:=⟨m-(i+1),by omega⟩
      rw[hd];refine tr.same hsyn h2 d (by omega) λk x' h3 h4 hx' hs'=>?_
      rcases late k x' (by omega) (by omega) hx' hs' with h | h
      ·exact .inl h
      ·rcases(Ky h hst hs').2 with h | ⟨_,happ,dd,hdd,hex⟩
       ·exact .inl h
       ·right;have hkeep:∀(e:Nat),i+1+e<=k->aT (T (i+1+e)).1 (.t dd)=V i:=by
         intro e;induction e with
         | zero=>
           intro _;rw[iV,(tr.step i c hc).2,hdd];simp[kY,qQ]
         | succ e ih=>
           intro he;have hxe:=hget (i+1+e) (by omega);have:=D.keptD k x' dd i c hx' hex (by omega) hc hlay hdd (i+1+e) _ (by omega) (by omega) hxe;rw[show i+1+ (e+1)=i+1+e+1 by omega,(tr.step _ _ hxe).2];cases hd2:(ms.getD (i+1+e) c).dst with
           | none=>exact ih (by omega)
           | some d'=>
             simp only[kY,qQ];rw[aD (λe'=>this (by rw[hd2,e']))];exact ih (by omega)
        have hk2:=hkeep (k-(i+1)) (by omega);rw[show i+1+ (k-(i+1))=k by omega] at hk2;rcases hone with h5 | ⟨h5,h6⟩
        ·omega
        ·have hb:b=(T i).2.2:=by omega
         refine jo5 happ (tr.step k x' hx').1 _ hex b (kB h2 (mono (i+1) k (by omega) (by omega))) ?_;rw[hk2,hb];exact h6
     have hrm:HR ρ' (T m).2.1 w':=by
      refine⟨λb k l hb hl=>?_,λb b' l l' h1 h2 h3 h4 h5=>?_⟩
      ·by_cases hbn:(T i).2.2<=b/\b< (T (i+1)).2.2
       ·refine hr.blk b k l ?_ hl;rw[hnewE b hbn.1 hbn.2,<-stay b hbn.1 hbn.2];exact hb
       ·rw[s.ext b (by omega)] at hl;have h6:=I.hr.blk b k l hb hl;exact h6.mono hle (kept _ h6.lt)
      ·have olds:∀b l,((T m).2.1.get b).isSome->¬((T i).2.2<=b/\b< (T (i+1)).2.2)->ρ' b=some l->ρ b=some l/\l.blk<w.heap.size:=by
        intro b l hb hn hl;rw[s.ext b (by omega)] at hl;obtain⟨k,hk⟩:=lN.1 hb;exact⟨hl,(I.hr.blk b k l hk hl).lt⟩
       by_cases hb1:(T i).2.2<=b/\b< (T (i+1)).2.2<;>by_cases hb2:(T i).2.2<=b'/\b'< (T (i+1)).2.2
       ·refine hr.inj b b' l l' ?_ ?_ h3 h4 h5
        ·rw[hnewE b hb1.1 hb1.2,<-stay b hb1.1 hb1.2];exact h1
        ·rw[hnewE b' hb2.1 hb2.2,<-stay b' hb2.1 hb2.2];exact h2
       ·have g1:=hnew b l hb1.1 hb1.2 h3;have g2:=(olds b' l' h2 hb2 h4).2;omega
       ·have g1:=hnew b' l' hb2.1 hb2.2 h4;have g2:=(olds b l h1 hb1 h3).2;omega
       ·exact I.hr.inj b b' l l' h1 h2 (olds b l h1 hb1 h3).1 (olds b' l' h2 hb2 h4).1 h5
     refine hK _ _ _ _ m (I.next D ho hc hi hready later s' free (mono 0 i (by omega) (by omega)) hin' (λb hb=>by cases hb) (λb hb=>by cases hb) (λb h1 h2=>⟨h1,h2⟩) hrm hv ?_ ?_)
     ·rcases I.mval with h | ⟨k,ck,h1,h2,h3⟩
      ·exact .inl h
      ·exact .inr ⟨k,ck,h1,.inr h2,h3⟩
     ·intro k ck hk hck hs;rcases hk with rfl | hk
      ·omega
      ·exact I.mlt k ck hk hck hs
    have hqk:∀k x',i<k->k<m->ms[k]?=some x'->x'.still=false->x'.q=true:=by
     intro k x' h1 h2 hx' hs';rcases late k x' h1 h2 hx' hs' with h | h
     ·exact h
     ·exact(Ky h hst hs').2.resolve_right λh=>hlay h.1
    obtain⟨d,hd⟩:∃d,m=i+1+d:=⟨m-(i+1),by omega⟩
    have heq1:∀b,b< (T (i+1)).2.2->(T m).2.1.get b=(T (i+1)).2.1.get b:=by
     intro b hb;rw[hd];exact tr.same hsyn hb d (by omega) λk x' h1 h2 hx' hs'=>.inl (hqk k x' (by omega) (by omega) hx' hs')
    have hroq:roOf c (T i).2.2 ro=(T i).2.2:=by rw[roOf,hq];rfl
    have heq0:∀b,b< (T i).2.2->(T m).2.1.get b=(T i).2.1.get b:=by
     intro b hb;have sy:=tr.syn hsyn hc;rw[heq1 b (kB hb sy.up),sy.old b (by rw[hroq];exact hb) hb]
    have hr0:HR ρ (T i).2.1 w:=by
     refine⟨λb k l hb hl=>?_,λb b' l l' h1 h2 h3 h4 h5=>?_⟩
     ·refine I.hr.blk b k l ?_ hl;rw[heq0 b (wfk i (by omega) b (by rw[hb];rfl))];exact hb
     ·refine I.hr.inj b b' l l' ?_ ?_ h3 h4 h5
      ·rw[heq0 b (wfk i (by omega) b h1)];exact h1
      ·rw[heq0 b' (wfk i (by omega) b' h2)];exact h2
    refine Kv hcall hcomp hrun agree I.tr I.gl hr0 free hroi (wfk i (by omega)) ?_;rintro v' w' ⟨ρ',s,hr,hv⟩;have hle:=s.le free;have s':=s.weaken (Gk (c:=c) hroi).1;rw[hroq] at s;have kept:∀x,x<w.heap.size->w'.heap[x]?=w.heap[x]?:=λx hx=>s.keep x hx λb l _ _ hb=>wfk i (by omega) b hb
    have hnew:∀b l,(T i).2.2<=b->b< (T (i+1)).2.2->ρ' b=some l->w.heap.size<=l.blk:=by
     intro b l h1 h2 hl;rcases s.fresh b l h1 h2 hl with⟨h3,_⟩ | ⟨b0,l0,h3,h4,_⟩
     ·exact h3
     ·have:=wfk i (by omega) b0 h4;omega
    have hrm:HR ρ' (T m).2.1 w':=by
     refine⟨λb k l hb hl=>?_,λb b' l l' h1 h2 h3 h4 h5=>?_⟩
     ·by_cases hbn:(T i).2.2<=b/\b< (T (i+1)).2.2
      ·refine hr.blk b k l ?_ hl;rw[<-heq1 b hbn.2];exact hb
      ·rw[s.ext b (by omega)] at hl;have h6:=I.hr.blk b k l hb hl;exact h6.mono hle (kept _ h6.lt)
     ·have olds:∀b l,((T m).2.1.get b).isSome->¬((T i).2.2<=b/\b< (T (i+1)).2.2)->ρ' b=some l->ρ b=some l/\l.blk<w.heap.size:=by
       intro b l hb hn hl;rw[s.ext b (by omega)] at hl;obtain⟨k,hk⟩:=lN.1 hb;exact⟨hl,(I.hr.blk b k l hk hl).lt⟩
      by_cases hb1:(T i).2.2<=b/\b< (T (i+1)).2.2<;>by_cases hb2:(T i).2.2<=b'/\b'< (T (i+1)).2.2
      ·refine hr.inj b b' l l' ?_ ?_ h3 h4 h5
       ·rw[<-heq1 b hb1.2];exact h1
       ·rw[<-heq1 b' hb2.2];exact h2
      ·have g1:=hnew b l hb1.1 hb1.2 h3;have g2:=(olds b' l' h2 hb2 h4).2;omega
      ·have g1:=hnew b' l' hb2.1 hb2.2 h4;have g2:=(olds b l h1 hb1 h3).2;omega
      ·exact I.hr.inj b b' l l' h1 h2 (olds b l h1 hb1 h3).1 (olds b' l' h2 hb2 h4).1 h5
    refine hK _ _ _ _ m (I.next D ho hc hi hready later s' free (mono 0 i (by omega) (by omega)) hin' (wfk i (by omega)) (tr.live hsyn i (by omega)) (λb h1 h2=>⟨h1,h2⟩) hrm hv ?_ ?_)
    ·rcases I.mval with h | ⟨k,ck,h1,h2,h3⟩
     ·exact .inl h
     ·exact .inr ⟨k,ck,h1,.inr h2,h3⟩
    ·intro k ck hk hck hs;rcases hk with rfl | hk
     ·omega
     ·exact I.mlt k ck hk hck hs
end
end Go.Vm
