/- Parts of the proof. -/
import Derived.Test.YtccefhabickfiaaGreatDoorVmZK
set_option linter.unusedSimpArgs false
set_option linter.unusedVariables false
namespace Go.Vm
section
variable {P:Program} {gl:List Nat} {nt:Nat} {ops:Array Oper} {ms:List COp} {an:List Nat} {call:FuncId->List AV->Tr Blk->Nat->Nat->bN} {ro:Nat} {T:Nat->St} {V:Nat->AV}
variable {ρ0:RM} {w0:World} {a0:Act}
theorem Trace.stills (tr:Trace call ro ms T V) {m:Nat}:∀(d:Nat),m+d<=ms.length->(∀k c,m<=k->k<m+d->ms[k]?=some c->c.still=true)->(T (m+d)).2=(T m).2
 | 0,_,_=>rfl
 | d+1,h,hs=>by
   have hc:ms[m+d]?=some (ms[m+d]'(by omega)):=by simp
   have h1:=tr.still hc (hs (m+d) _ (by omega) (by omega) hc);rw[<-Trace.stills tr d (by omega) λk c h1 h2=>hs k c h1 (by omega)];exact oP h1.1 h1.2
theorem Inv.all (D:Drawn P gl nt ops ms an) {listed:Array Bool} (hsz:listed.size=ops.size) (hr:Region.ready .any ops listed=[]):∀j,j<ops.size->listed[j]?=some true:=by
 intro j;induction j using Nat.strongRecOn with
 | _ j ih=>
   intro hj;obtain⟨o,ho⟩:∃o,ops[j]?=some o:=⟨ops[j],by simp[hj]⟩
   refine sO λhn=>?_
   have hfalse:listed.getD j true=false:=by
    have hs:j<listed.size:=by omega
    simp only[Array.getD,hs,dif_pos];simp only[mA hs,aG] at hn;simpa using hn
   have:j∈Region.ready .any ops listed:=by
    unfold Region.ready;refine oN.2 ⟨jI.2 hj,?_⟩;rw[hfalse,ho];simp only[yM,sV,eX,nL,Array.all_eq_true',kD,fB];intro e he;cases hb:Region.binds .any e with
    | false=>exact .inl rfl
    | true=>
      right;have:=ih e.on (D.es j o e ho (by simpa using he) hb) (by have:=D.es j o e ho (by simpa using he) hb;omega);obtain⟨h1,h2⟩:=eJ.1 this;simp[Array.getD,h1,h2]
   rw[hr] at this;cases this
theorem jq6 {l:List COp} {tm0:Tr AV} {S:Nat->Prop} [DecidablePred S] {t:Nat} (h:∀k,¬S k):∀m,tv l V tm0 S m t=aT tm0 (.t t)
 | 0=>rfl
 | m+1=>by rw[tv,aD (λe=>h m e.1),jq6 h m]
theorem jx4 (hcall:lS P gl call) (hsyn:iY call) (D:Drawn P gl nt ops ms an) (tr:Trace call ro ms T V) (hro:ro<=(T 0).2.2) (hwf0:WF (T 0).2.1 (T 0).2.2) {Q:Exit->Act->World->Prop}
  (hsy:Syn (T 0).2.1 (T 0).2.2 ro (T ms.length).2.1 (T ms.length).2.2)
  (hQ:∀ρ' a' w',Left gl nt ρ0 (T 0).2.1 (T 0).2.2 ro w0 a0 (T ms.length).1 (T ms.length).2.1 (T ms.length).2.2 a' w' ρ'->Q .normal a' w'):
  ∀(fuel:Nat) (listed:Array Bool) (ρ:RM) (tmS:Tr AV) (a:Act) (w:World) (m:Nat),Inv gl nt ops ms an ro T V ρ0 w0 a0 listed ρ tmS a w m->listed.toList.count false<=fuel->wpAny P .any ops Q fuel listed a w:=by
 intro fuel;have fin:∀(listed:Array Bool) (ρ:RM) (tmS:Tr AV) (a:Act) (w:World) (m:Nat),Inv gl nt ops ms an ro T V ρ0 w0 a0 listed ρ tmS a w m->Region.ready .any ops listed=[]->Q .normal a w:=by
  intro listed ρ tmS a w m I hr;have hall:=Inv.all D I.sz hr;have hmn:m<=ms.length:=by
   rcases I.mval with h | ⟨k,ck,h1,h2,_⟩
   ·omega
   ·have:=(eJ.1 h2).1;have:=D.len;have:=I.sz
    omega
  obtain⟨d,hd⟩:∃d,ms.length=m+d:=⟨ms.length-m,by omega⟩
  have hTm:(T ms.length).2=(T m).2:=by
   rw[hd];refine tr.stills d (by omega) λk c h1 h2 hc=>?_
   cases hs:c.still with
   | true=>rfl
   | false=>
     have:=I.mlt k c (hall k (by rw[<-D.len];omega)) hc hs;omega
  refine hQ ρ a w ⟨⟨I.part.os,I.part.tape,I.part.output,I.part.size,hsy.up,I.part.ext,I.part.keep,I.part.fresh,hsy.live,hsy.old⟩,?_,⟨I.tr.size,λn=>?_⟩,I.gl,I.dfr⟩
  ·rw[hTm];exact I.hr
  ·rw[jey tr rfl (S:=λk=>listed[k]?=some true) ms.length (by omega) (λk hk _=>hall k (by rw[<-D.len];exact hk)),<-I.val n];exact I.tr.val n
 induction fuel with
 | zero=>
   intro listed ρ tmS a w m I hc;have hr:Region.ready .any ops listed=[]:=by
    unfold Region.ready;rw[List.filter_eq_nil_iff];intro i hi;have hi':i<listed.size:=by rw[I.sz];exact jI.1 hi
    have:listed.getD i true=true:=by
     simp only[Array.getD,hi',dif_pos];have h0:listed.toList.count false=0:=by omega
     have:=List.count_eq_zero.1 h0;cases hb:listed[i] with
     | true=>exact hb
     | false=>exact absurd (by rw[<-hb];exact Array.getElem_mem_toList hi') this
    simp[this]
   exact⟨hr,fin listed ρ tmS a w m I hr⟩
 | succ fuel ih=>
   intro listed ρ tmS a w m I hc;refine⟨fin listed ρ tmS a w m I,λi hi=>?_⟩;unfold Region.ready at hi;obtain⟨h1,h2⟩:=oN.1 hi;have hin:=jI.1 h1;obtain⟨h3,h4⟩:=kO h2;obtain⟨o,ho⟩:∃o,ops[i]?=some o:=⟨ops[i],by simp[hin]⟩
   obtain⟨c,hcm⟩:∃c,ms[i]?=some c:=⟨ms[i]'(by rw[D.len];exact hin),by simp[D.len,hin]⟩
   have his:i<listed.size:=by rw[I.sz];exact hin
   have hli:listed[i]?=some false:=by
    simp only[Array.getD,his,dif_pos] at h3;rw[mA his];simpa using h3
   have hready:∀e∈o.after.toList,Region.binds .any e=true->listed[e.on]?=some true:=by
    intro e he hb;rw[ho] at h4;simp only[eX,nL,Array.all_eq_true',kD,fB] at h4;rcases h4 e (by simpa using he) with h | h
    ·rw[hb] at h;cases h
    ·have hlt:e.on<listed.size:=by
      have:=D.es i o e ho he hb;omega
     simp only[Array.getD,hlt,dif_pos] at h;rw[mA hlt,<-h];rfl
   have key:=I.step (K:=wpAny P .any ops Q fuel (listed.setIfInBounds i true)) (Q:=Q) hcall hsyn D tr hro hwf0 ho hcm hli hready λρ' tmS' a' w' m' I'=>by
    refine ih _ ρ' tmS' a' w' m' I' ?_;have:=jim listed.toList i (by simpa using hli);simp only[qf7];omega
   unfold wpOp;rw[ho];simp only;split
   ·rename_i hw;rw[aK hw] at key;exact .inl key
   ·rename_i hw;rw[aD hw] at key;exact key
theorem ji1 (hcall:lS P gl call) (hsyn:iY call) {cs:List COp} (hc:ops.toList.mapM (tO P gl nt ops)=some cs) (hd:zY ops cs=some ms)
  {ρ:RM} {tm tm':Tr AV} {H H':Tr Blk} {nx nx':Nat} {a:Act} {w:World} (h:jR call ro ms (tm,H,nx)=some (tm',H',nx')) (ht:TR ρ nt tm a) (hgl:GLok gl ρ) (hr:HR ρ H w) (hf:Free ρ nx nx') (hro:ro<=nx)
  (hwf:WF H nx) {Q:Exit->Act->World->Prop} (hQ:∀ρ' a' w',Left gl nt ρ H nx ro w a tm' H' nx' a' w' ρ'->Q .normal a' w'):wpAny P .any ops Q ops.size (Array.replicate ops.size false) a { w with drawn:=w.drawn+1 }:=by
 have D:=jx3 hc hd;obtain⟨T,V,t0,tn,tr⟩:=jq2 ms _ _ h;have hsy:=uE hsyn ms _ _ _ _ _ _ h;have e0:(T 0).2.1=H/\(T 0).2.2=nx/\(T 0).1=tm:=by rw[t0];exact⟨rfl,rfl,rfl⟩
 have en:(T ms.length).2.1=H'/\(T ms.length).2.2=nx'/\(T ms.length).1=tm':=by rw[tn];exact⟨rfl,rfl,rfl⟩
 refine jx4 (ρ0:=ρ) (w0:={ w with drawn:=w.drawn+1 }) (a0:=a) hcall hsyn D tr (by rw[e0.2.1];exact hro) (by rw[e0.1,e0.2.1];exact hwf) (by rw[e0.1,e0.2.1,en.1,en.2.1];exact hsy) ?_ ops.size _ ρ tm a _ 0 ?_ ?_
 ·intro ρ' a' w' L;rw[e0.1,e0.2.1,en.1,en.2.1,en.2.2] at L;exact hQ ρ' a' w' ⟨(Step.drew ρ H nx ro w _).trans L.step,L.hr,L.tr,L.gl,L.dfr⟩
 ·have hrep:∀k:Nat,¬((Array.replicate ops.size false)[k]?=some true):=by
   intro k hk;rw[qe7] at hk;split at hk<;>cases hk
  refine⟨by simp,λj i hj=>absurd hj (hrep j),ht,λt=>?_,.inl rfl,λk c hk=>absurd hk (hrep k),?_,?_,?_,hgl,rfl⟩
  ·rw[jq6 hrep,e0.2.2]
  ·rw[e0.1];exact hr.drew _
  ·rw[e0.1,e0.2.1];refine⟨rfl,rfl,rfl,aU _,λ_ _=>rfl,λ_ _ _=>rfl,λb l h1 h2 hb=>?_⟩;rw[en.2.1] at h2;rw[hf b h1 h2] at hb;cases hb
  ·intro b l hb;rw[e0.2.1,en.2.1];by_cases h:nx<=b/\b<nx'
   ·rw[hf b h.1 h.2] at hb;cases hb
   ·omega
 ·simp
theorem jx6 (hcall:lS P gl call) (hsyn:iY call) (hm:P.follows .mixedOrders=true) {cs:List COp} (hc:ops.toList.mapM (tO P gl nt ops)=some cs) (hd:zY ops cs=some ms)
  {ρ:RM} {tm tm':Tr AV} {H H':Tr Blk} {nx nx':Nat} {a:Act} {w:World} (h:jR call ro ms (tm,H,nx)=some (tm',H',nx')) (ht:TR ρ nt tm a) (hgl:GLok gl ρ) (hr:HR ρ H w) (hf:Free ρ nx nx') (hro:ro<=nx)
  (hwf:WF H nx) {Q:Exit->Act->World->Prop} (hQ:∀ρ' a' w',Left gl nt ρ H nx ro w a tm' H' nx' a' w' ρ'->Q .normal a' w'):wpAny P .any ops Q ops.size (Array.replicate ops.size false) a { w with drawn:=w.drawn+1 }:=
 ji1 hcall hsyn hc hd h ht hgl hr hf hro hwf hQ
theorem j44 {π:List Nat} {ops:Array Oper} (h:La π ops=true):PermOK π ops:=by
 unfold La at h;simp only[aN] at h;obtain⟨⟨⟨⟨h1,h2⟩,h3⟩,h4⟩,h5⟩:=h;refine⟨rB h1,λi hi=>?_,λk hk=>?_,λp i hp=>?_,λj o ho e he=>?_⟩
 ·have:=bS.1 h2 i hi;simp[Nat.blt] at this;omega
 ·have:=bS.1 h3 k (jI.2 hk);simpa using this
 ·have hlt:p<π.length:=(jG.1 hp).1;have:=bS.1 h4 p (jI.2 hlt);rw[List.getD,hp] at this;exact rB this
 ·have ho':o∈ops.toList:=by
   rw[<-lZ] at ho;exact rC ho
  have:=bS.1 (bS.1 h5 o ho') e (by simpa using he);simp[Nat.blt] at this;omega
theorem jx5 (hcall:lS P gl call) (hsyn:iY call) (hm:P.follows .mixedOrders=true) {π:List Nat} (hπ:La π ops=true) {cs:List COp} (hc:(kV π ops).toList.mapM (tO P gl nt (kV π ops))=some cs) (hd:zY (kV π ops) cs=some ms)
  {ρ:RM} {tm tm':Tr AV} {H H':Tr Blk} {nx nx':Nat} {a:Act} {w:World} (h:jR call ro ms (tm,H,nx)=some (tm',H',nx')) (ht:TR ρ nt tm a) (hgl:GLok gl ρ) (hr:HR ρ H w) (hf:Free ρ nx nx') (hro:ro<=nx)
  (hwf:WF H nx) {Q:Exit->Act->World->Prop} (hQ:∀ρ' a' w',Left gl nt ρ H nx ro w a tm' H' nx' a' w' ρ'->Q .normal a' w'):wpAny P .any ops Q ops.size (Array.replicate ops.size false) a { w with drawn:=w.drawn+1 }:=by
 have hp:=j44 hπ;have hsz:=jco hp;refine jrr hp ops.size _ (Array.replicate ops.size false) _ _ ⟨by simp,by simp,λk hk=>?_⟩ ?_
 ·have:=Uz hp hk;simp[Array.getD,hk,this]
 ·have:=ji1 hcall hsyn hc hd h ht hgl hr hf hro hwf hQ;rw[hsz] at this;exact this
end
end Go.Vm
