/- A region whose order is drawn, the end. -/
import Derived.Test.YtccefhabickfiaaGreatDoorVmZK
set_option linter.unusedSimpArgs false
set_option linter.unusedVariables false
namespace Go.Vm
section
variable {P:Program} {gl:List Nat} {nt:Nat} {ops:Array Oper} {ms:List COp} {an:List Nat} {call:FuncId->List AV->Tr Blk->Nat->Nat->dR} {ro:Nat} {T:Nat->St} {V:Nat->AV}
variable {ρ0:RM} {w0:World} {a0:Act}
theorem Trace.stills (tr:Trace call ro ms T V) {m:Nat}:∀(d:Nat),m+d<=ms.length->(∀k c,m<=k->k<m+d->ms[k]?=some c->c.still=true)->(T (m+d)).2=(T m).2
 | 0,_,_=>rfl
 | d+1,h,hs=>by
   have hc:ms[m+d]?=some (ms[m+d]'(by omega)):=by simp
   have h1:=tr.still hc (hs (m+d) _ (by omega) (by omega) hc);rw[<-Trace.stills tr d (by omega) λk c h1 h2=>hs k c h1 (by omega)];exact jJ h1.1 h1.2
theorem Inv.all (D:Drawn P gl nt ops ms an) {listed:Array Bool} (hsz:listed.size=ops.size) (hr:Region.ready .any ops listed=[]):∀j,j<ops.size->listed[j]?=some true:=by
 intro j;induction j using Nat.strongRecOn with
 | _ j ih=>
   intro hj;obtain⟨o,ho⟩:∃o,ops[j]?=some o:=⟨ops[j],by simp[hj]⟩
   refine nV λhn=>?_
   have hfalse:listed.getD j true=false:=by
    have hs:j<listed.size:=by omega
    simp only[Array.getD,hs,dif_pos];simp only[rY hs,aS] at hn;simpa using hn
   have:j∈Region.ready .any ops listed:=by
    unfold Region.ready;refine kN.2 ⟨fN.2 hj,?_⟩;rw[hfalse,ho];simp only[xO,sY,iF,pK,Array.all_eq_true',nW,jE];intro e he;cases hb:Region.binds .any e with
    | false=>exact .inl rfl
    | true=>
      right;have:=ih e.on (D.es j o e ho (by simpa using he) hb) (by have:=D.es j o e ho (by simpa using he) hb;omega);obtain⟨h1,h2⟩:=jI.1 this;simp[Array.getD,h1,h2]
   rw[hr] at this;cases this
theorem j53 {l:List COp} {tm0:Tr AV} {S:Nat->Prop} [DecidablePred S] {t:Nat} (h:∀k,¬S k):∀m,tv l V tm0 S m t=bV tm0 (.t t)
 | 0=>rfl
 | m+1=>by rw[tv,aC (λe=>h m e.1),j53 h m]
theorem kcn (hcall:rK P gl call) (hsyn:oF call) (D:Drawn P gl nt ops ms an) (tr:Trace call ro ms T V) (hro:ro<=(T 0).2.2) (hwf0:WF (T 0).2.1 (T 0).2.2) {Q:Exit->Act->World->Prop}
  (hsy:Syn (T 0).2.1 (T 0).2.2 ro (T ms.length).2.1 (T ms.length).2.2)
  (hQ:∀ρ' a' w',Left gl nt ρ0 (T 0).2.1 (T 0).2.2 ro w0 a0 (T ms.length).1 (T ms.length).2.1 (T ms.length).2.2 a' w' ρ'->Q .normal a' w'):
  ∀(fuel:Nat) (listed:Array Bool) (ρ:RM) (tmS:Tr AV) (a:Act) (w:World) (m:Nat),Inv gl nt ops ms an ro T V ρ0 w0 a0 listed ρ tmS a w m->listed.toList.count false<=fuel->wpAny P .any ops Q fuel listed a w:=by
 intro fuel;have fin:∀(listed:Array Bool) (ρ:RM) (tmS:Tr AV) (a:Act) (w:World) (m:Nat),Inv gl nt ops ms an ro T V ρ0 w0 a0 listed ρ tmS a w m->Region.ready .any ops listed=[]->Q .normal a w:=by
  intro listed ρ tmS a w m I hr;have hall:=Inv.all D I.sz hr;have hmn:m<=ms.length:=by
   rcases I.mval with h | ⟨k,ck,h1,h2,_⟩
   ·omega
   ·have:=(jI.1 h2).1;have:=D.len;have:=I.sz
    omega
  obtain⟨d,hd⟩:∃d,ms.length=m+d:=⟨ms.length-m,by omega⟩
  have hTm:(T ms.length).2=(T m).2:=by
   rw[hd];refine tr.stills d (by omega) λk c h1 h2 hc=>?_
   cases hs:c.still with
   | true=>rfl
   | false=>
     have:=I.mlt k c (hall k (by rw[<-D.len];omega)) hc hs;omega
  refine hQ ρ a w ⟨⟨I.part.os,I.part.tape,I.part.output,I.part.size,hsy.up,I.part.ext,I.part.keep,I.part.fresh,hsy.live,hsy.old⟩,?_,⟨I.tr.size,λn=>?_⟩,I.gl,I.dfr⟩
  ·rw[hTm];exact I.hr
  ·rw[jwa tr rfl (S:=λk=>listed[k]?=some true) ms.length (by omega) (λk hk _=>hall k (by rw[<-D.len];exact hk)),<-I.val n];exact I.tr.val n
 induction fuel with
 | zero=>
   intro listed ρ tmS a w m I hc;have hr:Region.ready .any ops listed=[]:=by
    unfold Region.ready;rw[List.filter_eq_nil_iff];intro i hi;have hi':i<listed.size:=by rw[I.sz];exact fN.1 hi
    have:listed.getD i true=true:=by
     simp only[Array.getD,hi',dif_pos];have h0:listed.toList.count false=0:=by omega
     have:=List.count_eq_zero.1 h0;cases hb:listed[i] with
     | true=>exact hb
     | false=>exact absurd (by rw[<-hb];exact Array.getElem_mem_toList hi') this
    simp[this]
   exact⟨hr,fin listed ρ tmS a w m I hr⟩
 | succ fuel ih=>
   intro listed ρ tmS a w m I hc;refine⟨fin listed ρ tmS a w m I,λi hi=>?_⟩;unfold Region.ready at hi;obtain⟨h1,h2⟩:=kN.1 hi;have hin:=fN.1 h1;obtain⟨h3,h4⟩:=pW h2;obtain⟨o,ho⟩:∃o,ops[i]?=some o:=⟨ops[i],by simp[hin]⟩
   obtain⟨c,hcm⟩:∃c,ms[i]?=some c:=⟨ms[i]'(by rw[D.len];exact hin),by simp[D.len,hin]⟩
   have his:i<listed.size:=by rw[I.sz];exact hin
   have hli:listed[i]?=some false:=by
    simp only[Array.getD,his,dif_pos] at h3;rw[rY his];simpa using h3
   have hready:∀e∈o.after.toList,Region.binds .any e=true->listed[e.on]?=some true:=by
    intro e he hb;rw[ho] at h4;simp only[iF,pK,Array.all_eq_true',nW,jE] at h4;rcases h4 e (by simpa using he) with h | h
    ·rw[hb] at h;cases h
    ·have hlt:e.on<listed.size:=by
      have:=D.es i o e ho he hb;omega
     simp only[Array.getD,hlt,dif_pos] at h;rw[rY hlt,<-h];rfl
   have key:=I.step (K:=wpAny P .any ops Q fuel (listed.setIfInBounds i true)) (Q:=Q) hcall hsyn D tr hro hwf0 ho hcm hli hready λρ' tmS' a' w' m' I'=>by
    refine ih _ ρ' tmS' a' w' m' I' ?_;have:=jy5 listed.toList i (by simpa using hli);simp only[qhy];omega
   unfold wpOp;rw[ho];simp only;split
   ·rename_i hw;rw[aH hw] at key;exact .inl key
   ·rename_i hw;rw[aC hw] at key;exact key
theorem jzc (hcall:rK P gl call) (hsyn:oF call) {cs:List COp} (hc:ops.toList.mapM (E5 P gl nt ops)=some cs) (hd:jbm ops cs=some ms)
  {ρ:RM} {tm tm':Tr AV} {H H':Tr Blk} {nx nx':Nat} {a:Act} {w:World} (h:oZ call ro ms (tm,H,nx)=some (tm',H',nx')) (ht:TR ρ nt tm a) (hgl:GLok gl ρ) (hr:HR ρ H w) (hf:Free ρ nx nx') (hro:ro<=nx)
  (hwf:WF H nx) {Q:Exit->Act->World->Prop} (hQ:∀ρ' a' w',Left gl nt ρ H nx ro w a tm' H' nx' a' w' ρ'->Q .normal a' w'):wpAny P .any ops Q ops.size (Array.replicate ops.size false) a { w with drawn:=w.drawn+1 }:=by
 have D:=kcm hc hd;obtain⟨T,V,t0,tn,tr⟩:=j5z ms _ _ h;have hsy:=J4 hsyn ms _ _ _ _ _ _ h;have e0:(T 0).2.1=H/\(T 0).2.2=nx/\(T 0).1=tm:=by rw[t0];exact⟨rfl,rfl,rfl⟩
 have en:(T ms.length).2.1=H'/\(T ms.length).2.2=nx'/\(T ms.length).1=tm':=by rw[tn];exact⟨rfl,rfl,rfl⟩
 refine kcn (ρ0:=ρ) (w0:={ w with drawn:=w.drawn+1 }) (a0:=a) hcall hsyn D tr (by rw[e0.2.1];exact hro) (by rw[e0.1,e0.2.1];exact hwf) (by rw[e0.1,e0.2.1,en.1,en.2.1];exact hsy) ?_ ops.size _ ρ tm a _ 0 ?_ ?_
 ·intro ρ' a' w' L;rw[e0.1,e0.2.1,en.1,en.2.1,en.2.2] at L;exact hQ ρ' a' w' ⟨(Step.drew ρ H nx ro w _).trans L.step,L.hr,L.tr,L.gl,L.dfr⟩
 ·have hrep:∀k:Nat,¬((Array.replicate ops.size false)[k]?=some true):=by
   intro k hk;rw[qgz] at hk;split at hk<;>cases hk
  refine⟨by simp,λj i hj=>absurd hj (hrep j),ht,λt=>?_,.inl rfl,λk c hk=>absurd hk (hrep k),?_,?_,?_,hgl,rfl⟩
  ·rw[j53 hrep,e0.2.2]
  ·rw[e0.1];exact hr.drew _
  ·rw[e0.1,e0.2.1];refine⟨rfl,rfl,rfl,bQ _,λ_ _=>rfl,λ_ _ _=>rfl,λb l h1 h2 hb=>?_⟩;rw[en.2.1] at h2;rw[hf b h1 h2] at hb;cases hb
  ·intro b l hb;rw[e0.2.1,en.2.1];by_cases h:nx<=b/\b<nx'
   ·rw[hf b h.1 h.2] at hb;cases hb
   ·omega
 ·simp
theorem kcp (hcall:rK P gl call) (hsyn:oF call) (hm:P.follows .mixedOrders=true) {cs:List COp} (hc:ops.toList.mapM (E5 P gl nt ops)=some cs) (hd:jbm ops cs=some ms)
  {ρ:RM} {tm tm':Tr AV} {H H':Tr Blk} {nx nx':Nat} {a:Act} {w:World} (h:oZ call ro ms (tm,H,nx)=some (tm',H',nx')) (ht:TR ρ nt tm a) (hgl:GLok gl ρ) (hr:HR ρ H w) (hf:Free ρ nx nx') (hro:ro<=nx)
  (hwf:WF H nx) {Q:Exit->Act->World->Prop} (hQ:∀ρ' a' w',Left gl nt ρ H nx ro w a tm' H' nx' a' w' ρ'->Q .normal a' w'):wpAny P .any ops Q ops.size (Array.replicate ops.size false) a { w with drawn:=w.drawn+1 }:=
 jzc hcall hsyn hc hd h ht hgl hr hf hro hwf hQ
theorem kkz {π:List Nat} {ops:Array Oper} (h:jiz π ops=true):PermOK π ops:=by
 unfold jiz at h;simp only[aT] at h;obtain⟨⟨⟨⟨h1,h2⟩,h3⟩,h4⟩,h5⟩:=h;refine⟨uO h1,λi hi=>?_,λk hk=>?_,λp i hp=>?_,λj o ho e he=>?_⟩
 ·have:=cJ.1 h2 i hi;simp[Nat.blt] at this;omega
 ·have:=cJ.1 h3 k (fN.2 hk);simpa using this
 ·have hlt:p<π.length:=(nC.1 hp).1;have:=cJ.1 h4 p (fN.2 hlt);rw[List.getD,hp] at this;exact uO this
 ·have ho':o∈ops.toList:=by
   rw[<-rZ] at ho;exact uP ho
  have:=cJ.1 (cJ.1 h5 o ho') e (by simpa using he);simp[Nat.blt] at this;omega
theorem kco (hcall:rK P gl call) (hsyn:oF call) (hm:P.follows .mixedOrders=true) {π:List Nat} (hπ:jiz π ops=true) {cs:List COp} (hc:(qF π ops).toList.mapM (E5 P gl nt (qF π ops))=some cs) (hd:jbm (qF π ops) cs=some ms)
  {ρ:RM} {tm tm':Tr AV} {H H':Tr Blk} {nx nx':Nat} {a:Act} {w:World} (h:oZ call ro ms (tm,H,nx)=some (tm',H',nx')) (ht:TR ρ nt tm a) (hgl:GLok gl ρ) (hr:HR ρ H w) (hf:Free ρ nx nx') (hro:ro<=nx)
  (hwf:WF H nx) {Q:Exit->Act->World->Prop} (hQ:∀ρ' a' w',Left gl nt ρ H nx ro w a tm' H' nx' a' w' ρ'->Q .normal a' w'):wpAny P .any ops Q ops.size (Array.replicate ops.size false) a { w with drawn:=w.drawn+1 }:=by
 have hp:=kkz hπ;have hsz:=jui hp;refine j6d hp ops.size _ (Array.replicate ops.size false) _ _ ⟨by simp,by simp,λk hk=>?_⟩ ?_
 ·have:=jo1 hp hk;simp[Array.getD,hk,this]
 ·have:=jzc hcall hsyn hc hd h ht hgl hr hf hro hwf hQ;rw[hsz] at this;exact this
end
end Go.Vm
