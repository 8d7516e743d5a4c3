/-
  A region whose order is drawn, the end.
-/
import Derived.Test.YtonohffniohehaaGreatDoorVmZK
set_option linter.unusedSimpArgs false
set_option linter.unusedVariables false
set_option linter.unusedSectionVars false
set_option linter.unnecessarySimpa false
namespace Go.Vm
section
variable {P:Program} {gl:List Nat} {nt:Nat} {ops:Array Oper} {ms:List COp} {an:List Nat} {call:FuncId→List AV→Tr Blk→Nat→Nat→Out} {ro:Nat} {T:Nat→St} {V:Nat→AV}
variable {ρ0:RM} {w0:World} {a0:Act}
theorem Trace.stills (tr:Trace call ro ms T V) {m:Nat}:∀(d:Nat),m+d≤ms.length→(∀k c,m≤k→k<m+d→ms[k]?=some c→c.still=true)→(T (m+d)).2=(T m).2
 | 0,_,_=>rfl
 | d+1,h,hs=>by
   have hc:ms[m+d]?=some (ms[m+d]'(by omega)):=by simp
   have h1:=tr.still hc (hs (m+d) _ (by omega) (by omega) hc)
   rw[←Trace.stills tr d (by omega) fun k c h1 h2=>hs k c h1 (by omega)]
   exact Prod.ext h1.1 h1.2
theorem Inv.all (D:Drawn P gl nt ops ms an) {listed:Array Bool} (hsz:listed.size=ops.size) (hr:Region.ready .any ops listed=[]):∀j,j<ops.size→listed[j]?=some true:=by
 intro j
 induction j using Nat.strongRecOn with
 | _ j ih=>
   intro hj
   obtain⟨o,ho⟩:∃o,ops[j]?=some o:=⟨ops[j],by simp[hj]⟩
   refine Classical.byContradiction fun hn=>?_
   have hfalse:listed.getD j true=false:=by
    have hs:j<listed.size:=by omega
    simp only[Array.getD,hs,dif_pos]
    simp only[Array.getElem?_eq_getElem hs,Option.some.injEq] at hn
    simpa using hn
   have:j∈Region.ready .any ops listed:=by
    unfold Region.ready
    refine List.mem_filter.2 ⟨List.mem_range.2 hj,?_⟩
    rw[hfalse,ho]
    simp only[Bool.not_false,Bool.true_and,Option.map_some,Option.getD_some,Array.all_eq_true',Bool.or_eq_true,Bool.not_eq_true']
    intro e he
    cases hb:Region.binds .any e with
    | false=>exact .inl rfl
    | true=>
      right
      have:=ih e.on (D.es j o e ho (by simpa using he) hb) (by have:=D.es j o e ho (by simpa using he) hb;omega)
      obtain⟨h1,h2⟩:=Array.getElem?_eq_some_iff.1 this
      simp[Array.getD,h1,h2]
   rw[hr] at this
   cases this
theorem j9p {l:List COp} {tm0:Tr AV} {S:Nat→Prop} [DecidablePred S] {t:Nat} (h:∀k,¬S k):∀m,tv l V tm0 S m t=jbd tm0 (.t t)
 | 0=>rfl
 | m+1=>by rw[tv,if_neg (fun e=>h m e.1),j9p h m]
theorem kez (hcall:jkv P gl call) (hsyn:jji call) (D:Drawn P gl nt ops ms an) (tr:Trace call ro ms T V) (hro:ro≤(T 0).2.2) (hwf0:WF (T 0).2.1 (T 0).2.2) {Q:Exit→Act→World→Prop}
  (hsy:Syn (T 0).2.1 (T 0).2.2 ro (T ms.length).2.1 (T ms.length).2.2)
  (hQ:∀ρ' a' w',Left gl nt ρ0 (T 0).2.1 (T 0).2.2 ro w0 a0 (T ms.length).1 (T ms.length).2.1 (T ms.length).2.2 a' w' ρ'→Q .normal a' w'):
  ∀(fuel:Nat) (listed:Array Bool) (ρ:RM) (tmS:Tr AV) (a:Act) (w:World) (m:Nat),Inv gl nt ops ms an ro T V ρ0 w0 a0 listed ρ tmS a w m→listed.toList.count false≤fuel→wpAny P .any ops Q fuel listed a w:=by
 intro fuel
 have fin:∀(listed:Array Bool) (ρ:RM) (tmS:Tr AV) (a:Act) (w:World) (m:Nat),Inv gl nt ops ms an ro T V ρ0 w0 a0 listed ρ tmS a w m→Region.ready .any ops listed=[]→Q .normal a w:=by
  intro listed ρ tmS a w m I hr
  have hall:=Inv.all D I.sz hr
  have hmn:m≤ms.length:=by
   rcases I.mval with h | ⟨k,ck,h1,h2,_⟩
   ·omega
   ·have:=(Array.getElem?_eq_some_iff.1 h2).1
    have:=D.len;have:=I.sz
    omega
  obtain⟨d,hd⟩:∃d,ms.length=m+d:=⟨ms.length-m,by omega⟩
  have hTm:(T ms.length).2=(T m).2:=by
   rw[hd]
   refine tr.stills d (by omega) fun k c h1 h2 hc=>?_
   cases hs:c.still with
   | true=>rfl
   | false=>
     have:=I.mlt k c (hall k (by rw[←D.len];omega)) hc hs
     omega
  refine hQ ρ a w ⟨⟨I.part.os,I.part.tape,I.part.output,I.part.size,hsy.up,I.part.ext,I.part.keep,I.part.fresh,hsy.live,hsy.old⟩,?_,⟨I.tr.size,fun n=>?_⟩,I.gl,I.dfr⟩
  ·rw[hTm];exact I.hr
  ·rw[j9q tr rfl (S:=fun k=>listed[k]?=some true) ms.length (by omega) (fun k hk _=>hall k (by rw[←D.len];exact hk)),←I.val n]
   exact I.tr.val n
 induction fuel with
 | zero=>
   intro listed ρ tmS a w m I hc
   have hr:Region.ready .any ops listed=[]:=by
    unfold Region.ready
    rw[List.filter_eq_nil_iff]
    intro i hi
    have hi':i<listed.size:=by rw[I.sz];exact List.mem_range.1 hi
    have:listed.getD i true=true:=by
     simp only[Array.getD,hi',dif_pos]
     have h0:listed.toList.count false=0:=by omega
     have:=List.count_eq_zero.1 h0
     cases hb:listed[i] with
     | true=>exact hb
     | false=>exact absurd (by rw[←hb];exact Array.getElem_mem_toList hi') this
    simp[this]
   exact⟨hr,fin listed ρ tmS a w m I hr⟩
 | succ fuel ih=>
   intro listed ρ tmS a w m I hc
   refine⟨fin listed ρ tmS a w m I,fun i hi=>?_⟩
   unfold Region.ready at hi
   obtain⟨h1,h2⟩:=List.mem_filter.1 hi
   have hin:=List.mem_range.1 h1
   obtain⟨h3,h4⟩:=jbq h2
   obtain⟨o,ho⟩:∃o,ops[i]?=some o:=⟨ops[i],by simp[hin]⟩
   obtain⟨c,hcm⟩:∃c,ms[i]?=some c:=⟨ms[i]'(by rw[D.len];exact hin),by simp[D.len,hin]⟩
   have his:i<listed.size:=by rw[I.sz];exact hin
   have hli:listed[i]?=some false:=by
    simp only[Array.getD,his,dif_pos] at h3
    rw[Array.getElem?_eq_getElem his]
    simpa using h3
   have hready:∀e∈o.after.toList,Region.binds .any e=true→listed[e.on]?=some true:=by
    intro e he hb
    rw[ho] at h4
    simp only[Option.map_some,Option.getD_some,Array.all_eq_true',Bool.or_eq_true,Bool.not_eq_true'] at h4
    rcases h4 e (by simpa using he) with h | h
    ·rw[hb] at h;cases h
    ·have hlt:e.on<listed.size:=by
      have:=D.es i o e ho he hb
      omega
     simp only[Array.getD,hlt,dif_pos] at h
     rw[Array.getElem?_eq_getElem hlt,←h]
     rfl
   have key:=I.step (K:=wpAny P .any ops Q fuel (listed.setIfInBounds i true)) (Q:=Q) hcall hsyn D tr hro hwf0 ho hcm hli hready fun ρ' tmS' a' w' m' I'=>by
    refine ih _ ρ' tmS' a' w' m' I' ?_
    have:=j2o listed.toList i (by simpa using hli)
    simp only[Array.toList_setIfInBounds]
    omega
   unfold wpOp
   rw[ho]
   simp only
   split
   ·rename_i hw;rw[if_pos hw] at key;exact .inl key
   ·rename_i hw;rw[if_neg hw] at key;exact key
theorem jx4 (hcall:jkv P gl call) (hsyn:jji call) {cs:List COp} (hc:ops.toList.mapM (jw5 P gl nt ops)=some cs) (hd:kiy ops cs=some ms)
  {ρ:RM} {tm tm':Tr AV} {H H':Tr Blk} {nx nx':Nat} {a:Act} {w:World} (h:jfb call ro ms (tm,H,nx)=some (tm',H',nx')) (ht:TR ρ nt tm a) (hgl:GLok gl ρ) (hr:HR ρ H w) (hf:Free ρ nx nx') (hro:ro≤nx)
  (hwf:WF H nx) {Q:Exit→Act→World→Prop} (hQ:∀ρ' a' w',Left gl nt ρ H nx ro w a tm' H' nx' a' w' ρ'→Q .normal a' w'):wpAny P .any ops Q ops.size (Array.replicate ops.size false) a { w with drawn:=w.drawn+1 }:=by
 have D:=kb5 hc hd
 obtain⟨T,V,t0,tn,tr⟩:=j51 ms _ _ h
 have hsy:=jg4 hsyn ms _ _ _ _ _ _ h
 have e0:(T 0).2.1=H∧(T 0).2.2=nx∧(T 0).1=tm:=by rw[t0];exact⟨rfl,rfl,rfl⟩
 have en:(T ms.length).2.1=H'∧(T ms.length).2.2=nx'∧(T ms.length).1=tm':=by rw[tn];exact⟨rfl,rfl,rfl⟩
 refine kez (ρ0:=ρ) (w0:={ w with drawn:=w.drawn+1 }) (a0:=a) hcall hsyn D tr (by rw[e0.2.1];exact hro) (by rw[e0.1,e0.2.1];exact hwf) (by rw[e0.1,e0.2.1,en.1,en.2.1];exact hsy) ?_ ops.size _ ρ tm a _ 0 ?_ ?_
 ·intro ρ' a' w' L
  rw[e0.1,e0.2.1,en.1,en.2.1,en.2.2] at L
  exact hQ ρ' a' w' ⟨(Step.drew ρ H nx ro w _).trans L.step,L.hr,L.tr,L.gl,L.dfr⟩
 ·have hrep:∀k:Nat,¬((Array.replicate ops.size false)[k]?=some true):=by
   intro k hk
   rw[Array.getElem?_replicate] at hk
   split at hk<;>cases hk
  refine⟨by simp,fun j i hj=>absurd hj (hrep j),ht,fun t=>?_,.inl rfl,fun k c hk=>absurd hk (hrep k),?_,?_,?_,hgl,rfl⟩
  ·rw[j9p hrep,e0.2.2]
  ·rw[e0.1];exact hr.drew _
  ·rw[e0.1,e0.2.1]
   refine⟨rfl,rfl,rfl,Nat.le_refl _,fun _ _=>rfl,fun _ _ _=>rfl,fun b l h1 h2 hb=>?_⟩
   rw[en.2.1] at h2
   rw[hf b h1 h2] at hb
   cases hb
  ·intro b l hb
   rw[e0.2.1,en.2.1]
   by_cases h:nx≤b∧b<nx'
   ·rw[hf b h.1 h.2] at hb;cases hb
   ·omega
 ·simp
theorem j5g (hcall:jkv P gl call) (hsyn:jji call) (hm:P.follows .mixedOrders=true) {cs:List COp} (hc:ops.toList.mapM (jw5 P gl nt ops)=some cs) (hd:kiy ops cs=some ms)
  {ρ:RM} {tm tm':Tr AV} {H H':Tr Blk} {nx nx':Nat} {a:Act} {w:World} (h:jfb call ro ms (tm,H,nx)=some (tm',H',nx')) (ht:TR ρ nt tm a) (hgl:GLok gl ρ) (hr:HR ρ H w) (hf:Free ρ nx nx') (hro:ro≤nx)
  (hwf:WF H nx) {Q:Exit→Act→World→Prop} (hQ:∀ρ' a' w',Left gl nt ρ H nx ro w a tm' H' nx' a' w' ρ'→Q .normal a' w'):wpAny P .any ops Q ops.size (Array.replicate ops.size false) a { w with drawn:=w.drawn+1 }:=
 jx4 hcall hsyn hc hd h ht hgl hr hf hro hwf hQ
theorem kdz {π:List Nat} {ops:Array Oper} (h:kam π ops=true):PermOK π ops:=by
 unfold kam at h
 simp only[Bool.and_eq_true] at h
 obtain⟨⟨⟨⟨h1,h2⟩,h3⟩,h4⟩,h5⟩:=h
 refine⟨Nat.eq_of_beq_eq_true h1,fun i hi=>?_,fun k hk=>?_,fun p i hp=>?_,fun j o ho e he=>?_⟩
 ·have:=List.all_eq_true.1 h2 i hi
  simp[Nat.blt] at this;omega
 ·have:=List.all_eq_true.1 h3 k (List.mem_range.2 hk)
  simpa using this
 ·have hlt:p<π.length:=(List.getElem?_eq_some_iff.1 hp).1
  have:=List.all_eq_true.1 h4 p (List.mem_range.2 hlt)
  rw[List.getD,hp] at this
  exact Nat.eq_of_beq_eq_true this
 ·have ho':o∈ops.toList:=by
   rw[←Array.getElem?_toList] at ho
   exact List.mem_of_getElem? ho
  have:=List.all_eq_true.1 (List.all_eq_true.1 h5 o ho') e (by simpa using he)
  simp[Nat.blt] at this;omega
theorem j8p (hcall:jkv P gl call) (hsyn:jji call) (hm:P.follows .mixedOrders=true) {π:List Nat} (hπ:kam π ops=true) {cs:List COp} (hc:(jds π ops).toList.mapM (jw5 P gl nt (jds π ops))=some cs) (hd:kiy (jds π ops) cs=some ms)
  {ρ:RM} {tm tm':Tr AV} {H H':Tr Blk} {nx nx':Nat} {a:Act} {w:World} (h:jfb call ro ms (tm,H,nx)=some (tm',H',nx')) (ht:TR ρ nt tm a) (hgl:GLok gl ρ) (hr:HR ρ H w) (hf:Free ρ nx nx') (hro:ro≤nx)
  (hwf:WF H nx) {Q:Exit→Act→World→Prop} (hQ:∀ρ' a' w',Left gl nt ρ H nx ro w a tm' H' nx' a' w' ρ'→Q .normal a' w'):wpAny P .any ops Q ops.size (Array.replicate ops.size false) a { w with drawn:=w.drawn+1 }:=by
 have hp:=kdz hπ
 have hsz:=jmr hp
 refine jxd hp ops.size _ (Array.replicate ops.size false) _ _ ⟨by simp,by simp,fun k hk=>?_⟩ ?_
 ·have:=j59 hp hk
  simp[Array.getD,hk,this]
 ·have:=jx4 hcall hsyn hc hd h ht hgl hr hf hro hwf hQ
  rw[hsz] at this
  exact this
end
end Go.Vm
