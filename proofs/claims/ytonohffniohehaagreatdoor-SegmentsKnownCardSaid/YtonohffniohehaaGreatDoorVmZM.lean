/-
  Code, calls, and the machine's runs.
-/
import Derived.Test.YtonohffniohehaaGreatDoorVmY2
set_option linter.unusedSimpArgs false
set_option linter.unusedVariables false
set_option linter.unusedSectionVars false
set_option linter.unnecessarySimpa false
namespace Go.Vm
theorem jzs {f:St→Option (Ex×St)} {ro:Nat} (hf:∀tm H nx e tm' H' nx',f (tm,H,nx)=some (e,tm',H',nx')→Syn H nx ro H' nx'):
  ∀(n:Nat) (tm:Tr AV) (H:Tr Blk) (nx:Nat) (e:Ex) (tm':Tr AV) (H':Tr Blk) (nx':Nat),iter f n (tm,H,nx)=some (e,tm',H',nx')→Syn H nx ro H' nx'
 | 0,_,_,_,_,_,_,_,h=>by cases h
 | n+1,tm,H,nx,e,tm',H',nx',h=>by
   unfold iter at h
   split at h
   ·rename_i s1 h1
    obtain⟨tm1,H1,nx1⟩:=s1
    have s:=hf _ _ _ _ _ _ _ h1
    exact s.trans (jzs hf n _ _ _ _ _ _ _ h)
   ·rename_i r hr
    exact hf _ _ _ _ _ _ _ h
theorem jqf {ok:Tr Blk→Prop} {f:List AV→Tr Blk→Nat→Option (Ex×Tr Blk×Nat)} {ro:Nat} (hf:∀y H nx e H' nx',f y H nx=some (e,H',nx')→Syn H nx ro H' nx'):
  ∀(l:List (List AV)) (H:Tr Blk) (nx:Nat) (e:Ex) (H':Tr Blk) (nx':Nat),j4d ok f l H nx=some (e,H',nx')→Syn H nx ro H' nx'
 | [],H,nx,e,H',nx',h=>by
   simp only[j4d,Option.some.injEq,Prod.mk.injEq] at h
   obtain⟨_,rfl,rfl⟩:=h
   exact Syn.refl _ _ _
 | y::l,H,nx,e,H',nx',h=>by
   unfold j4d at h
   split at h
   ·rename_i H1 nx1 h1
    split at h
    ·exact(hf _ _ _ _ _ _ h1).trans (jqf hf l _ _ _ _ _ h)
    ·cases h
   ·exact hf _ _ _ _ _ _ h
theorem juy {call:FuncId→List AV→Tr Blk→Nat→Nat→Out} {ro:Nat} {x:Opd} {its:Its} {ps:List Nat} {as:List COp} {b:CC} {tm tm':Tr AV} {H H':Tr Blk} {nx nx':Nat} {e:Ex}
  (h:exec call ro (.rangeF x its ps as b) (tm,H,nx)=some (e,tm',H',nx')):tm'=tm∧∃f free it ys,jbd tm x=.fn (.func f) [] free∧kjw its f=some it∧it free H=some ys∧(∀y∈ys.1,y.length=ps.length)∧
    ∃g:List AV→Tr Blk→Nat→Option (Ex×Tr Blk×Nat),j4d (fun H=>it free H=some ys) g ys.1 H nx=some (e,H',nx')∧
     ∀y H nx e H' nx',g y H nx=some (e,H',nx')→∃s1 tm2,jfb call ro as (j4k ps y tm,H,nx)=some s1∧exec call ro b s1=some (e,tm2,H',nx'):=by
 simp only[exec] at h
 split at h<;>try (cases h;done)
 rename_i f free hv
 split at h<;>try (cases h;done)
 rename_i it hit
 split at h<;>try (cases h;done)
 rename_i ys hys
 obtain⟨hl,h2⟩:=jah h
 split at h2<;>try (cases h2;done)
 rename_i e1 H1 nx1 hr
 simp only[Option.some.injEq,Prod.mk.injEq] at h2
 obtain⟨rfl,rfl,rfl,rfl⟩:=h2
 refine⟨rfl,f,free,it,ys,hv,hit,hys,fun y hy=>?_,_,hr,fun y H nx e H' nx' hg=>?_⟩
 ·have:=List.all_eq_true.1 hl y hy
  rwa[jaa,decide_eq_true_eq] at this
 ·unfold j6c at hg
  split at hg<;>try (cases hg;done)
  rename_i s1 hs1
  split at hg<;>try (cases hg;done)
  rename_i e2 tm2 H2 nx2 hs2
  cases hg
  exact⟨s1,tm2,hs1,hs2⟩
theorem jdw {call:FuncId→List AV→Tr Blk→Nat→Nat→Out} (hsyn:jji call) {ro:Nat}:∀(c:CC) (tm:Tr AV) (H:Tr Blk) (nx:Nat) (e:Ex) (tm':Tr AV) (H':Tr Blk) (nx':Nat),
  exec call ro c (tm,H,nx)=some (e,tm',H',nx')→Syn H nx ro H' nx'
 | .skip,tm,H,nx,e,tm',H',nx',h=>by
   simp only[exec,Option.some.injEq,Prod.mk.injEq] at h
   obtain⟨_,_,rfl,rfl⟩:=h
   exact Syn.refl _ _ _
 | .region ops,tm,H,nx,e,tm',H',nx',h=>by
   simp only[exec] at h
   split at h
   ·rename_i s1 h1
    simp only[Option.some.injEq,Prod.mk.injEq] at h
    obtain⟨_,rfl⟩:=h
    exact jg4 hsyn ops _ _ _ _ _ _ h1
   ·cases h
 | .seq a b,tm,H,nx,e,tm',H',nx',h=>by
   simp only[exec] at h
   split at h
   ·rename_i s1 h1
    obtain⟨tm1,H1,nx1⟩:=s1
    have s:=jdw hsyn a _ _ _ _ _ _ _ h1
    exact s.trans (jdw hsyn b _ _ _ _ _ _ _ h)
   ·exact jdw hsyn a _ _ _ _ _ _ _ h
 | .cond c a b,tm,H,nx,e,tm',H',nx',h=>by
   simp only[exec] at h
   split at h
   ·exact jdw hsyn a _ _ _ _ _ _ _ h
   ·exact jdw hsyn b _ _ _ _ _ _ _ h
   ·cases h
 | .block id b,tm,H,nx,e,tm',H',nx',h=>by
   simp only[exec] at h
   split at h
   ·rename_i i s1 h1
    obtain⟨tm1,H1,nx1⟩:=s1
    have s:=jdw hsyn b _ _ _ _ _ _ _ h1
    rcases je4 h with⟨_,h⟩ | ⟨_,h⟩<;>simp only[Option.some.injEq,Prod.mk.injEq] at h<;>obtain⟨_,_,rfl,rfl⟩:=h<;>exact s
   ·exact jdw hsyn b _ _ _ _ _ _ _ h
 | .loop b,tm,H,nx,e,tm',H',nx',h=>by
   simp only[exec] at h
   exact jzs (fun tm H nx e tm' H' nx'=>jdw hsyn b tm H nx e tm' H' nx') fuel _ _ _ _ _ _ _ h
 | .rangeF x its ps as b,tm,H,nx,e,tm',H',nx',h=>by
   obtain⟨_,f,free,it,ys,_,_,_,_,g,hr,hg⟩:=juy h
   refine jqf (fun y H nx e H' nx' h=>?_) ys.1 _ _ _ _ _ hr
   obtain⟨s1,tm2,h1,h2⟩:=hg _ _ _ _ _ _ h
   obtain⟨tm1,H1,nx1⟩:=s1
   exact(jg4 hsyn as _ _ _ _ _ _ h1).trans (jdw hsyn b _ _ _ _ _ _ _ h2)
 | .exit id,tm,H,nx,e,tm',H',nx',h=>by
   simp only[exec,Option.some.injEq,Prod.mk.injEq] at h
   obtain⟨_,_,rfl,rfl⟩:=h
   exact Syn.refl _ _ _
 | .ret,tm,H,nx,e,tm',H',nx',h=>by
   simp only[exec,Option.some.injEq,Prod.mk.injEq] at h
   obtain⟨_,_,rfl,rfl⟩:=h
   exact Syn.refl _ _ _
 | .bad,tm,H,nx,e,tm',H',nx',h=>by cases h
section
variable {P:Program} {gl:List Nat} {nt:Nat} {call:FuncId→List AV→Tr Blk→Nat→Nat→Out} {ro:Nat}
def Marks (B:Nat) (ms:List Deferred) (w:World):Prop:=∀d∈ms,∃D,d={ target:=.collected D,args:=#[] }∧B≤D∧w.heap[D]?=some (.deferred (some []))
structure LeftM (gl:List Nat) (nt:Nat) (ρ:RM) (H:Tr Blk) (nx ro:Nat) (w:World) (a:Act) (tm':Tr AV) (H':Tr Blk) (nx':Nat) (a':Act) (w':World) (ρ':RM):Prop where
 step:Step ρ H nx ro w ρ' H' nx' w'
 hr:HR ρ' H' w'
 tr:TR ρ' nt tm' a'
 gl:GLok gl ρ'
 dfr:∃ms,a'.defers=ms++a.defers∧Marks w.heap.size ms w'∧ms.Pairwise (·≠·)
theorem Left.m {ρ ρ':RM} {H H':Tr Blk} {nx nx':Nat} {w w':World} {a a':Act} {tm':Tr AV} (h:Left gl nt ρ H nx ro w a tm' H' nx' a' w' ρ'):LeftM gl nt ρ H nx ro w a tm' H' nx' a' w' ρ':=
 ⟨h.step,h.hr,h.tr,h.gl,[],h.dfr,(fun d hd=>by cases hd),.nil⟩
theorem LeftM.refl {ρ:RM} {tm:Tr AV} {H:Tr Blk} {nx:Nat} {a:Act} {w:World} (ht:TR ρ nt tm a) (hgl:GLok gl ρ) (hr:HR ρ H w):LeftM gl nt ρ H nx ro w a tm H nx a w ρ:=
 ⟨Step.refl _ _ _ _ _,hr,ht,hgl,[],rfl,(fun d hd=>by cases hd),.nil⟩
theorem HR.norec {ρ:RM} {H:Tr Blk} {w:World} (h:HR ρ H w) {k:Nat} {o:Obj} (hk:w.heap[k]?=some o) (ho:kee o=true) {b:Nat} {l:Loc} (hb:ρ b=some l) (hl:l.blk=k):¬(H.get b).isSome:=by
 intro hs
 obtain⟨x,hx⟩:=Option.isSome_iff_exists.1 hs
 have:=h.blk b x l hx hb
 cases x with
 | cells c n=>
   obtain⟨cs,el,fr,h1,_⟩:=this
   rw[hl,hk] at h1
   cases h1;cases ho
 | iter s pos=>
   obtain⟨bs,h1,_⟩:=this
   rw[hl,hk] at h1
   cases h1;cases ho
 | mp m=>
   obtain⟨es,cl,h1,_⟩:=this
   rw[hl,hk] at h1
   cases h1;cases ho
theorem Step.keeps {ρ ρ':RM} {H H':Tr Blk} {nx nx':Nat} {w w':World} (s:Step ρ H nx ro w ρ' H' nx' w') (h:HR ρ H w):j5v w w':=fun k o hk ho=>by
 have hlt:=(Array.getElem?_eq_some_iff.1 hk).1
 rw[s.keep k hlt fun b l hb hl hs=>absurd hs (h.norec hk ho hb hl)]
 exact hk
theorem Marks.keep {B:Nat} {ms:List Deferred} {w w':World} (h:Marks B ms w) (k:j5v w w'):Marks B ms w':=fun d hd=>by
 obtain⟨D,h1,h2,h3⟩:=h d hd
 exact⟨D,h1,h2,k _ _ h3 rfl⟩
theorem Marks.le {B B':Nat} {ms:List Deferred} {w:World} (h:Marks B ms w) (k:B'≤B):Marks B' ms w:=fun d hd=>by
 obtain⟨D,h1,h2,h3⟩:=h d hd
 exact⟨D,h1,by omega,h3⟩
theorem LeftM.trans {ρ ρ1 ρ2:RM} {H H1 H2:Tr Blk} {nx nx1 nx2:Nat} {w w1 w2:World} {a a1 a2:Act} {tm1 tm2:Tr AV} (s:LeftM gl nt ρ H nx ro w a tm1 H1 nx1 a1 w1 ρ1) (t:LeftM gl nt ρ1 H1 nx1 ro w1 a1 tm2 H2 nx2 a2 w2 ρ2):
  LeftM gl nt ρ H nx ro w a tm2 H2 nx2 a2 w2 ρ2:=by
 obtain⟨m1,d1,k1,p1⟩:=s.dfr
 obtain⟨m2,d2,k2,p2⟩:=t.dfr
 refine⟨s.step.trans t.step,t.hr,t.tr,t.gl,m2++m1,by rw[d2,d1,List.append_assoc],fun d hd=>?_,List.pairwise_append.2 ⟨p2,p1,fun x hx y hy e=>?_⟩⟩
 ·rcases List.mem_append.1 hd with h | h
  ·exact(k2.le s.step.size) d h
  ·exact(k1.keep (t.step.keeps s.hr)) d h
 ·subst e
  obtain⟨D,h1,h2,h3⟩:=k2 x hx
  obtain⟨D',h4,h5,h6⟩:=k1 x hy
  rw[h1] at h4
  simp only[Deferred.mk.injEq,Target.collected.injEq,and_true] at h4
  subst h4
  have:=(Array.getElem?_eq_some_iff.1 h6).1
  omega
theorem HR.gr {ρ:RM} {H:Tr Blk} {w w':World} {B:Nat} (h:HR ρ H w) (g:Gr B w w'):HR ρ H w':=by
 refine⟨fun b k l hb hl=>?_,h.inj⟩
 have h1:=h.blk b k l hb hl
 refine Blk.Rel.mono (fun _ _ h=>h) h1 ?_
 cases k with
 | cells c n=>
   obtain⟨cs,el,fr,h2,_⟩:=h1
   rw[h2]
   exact g.same _ _ h2 (.inr rfl)
 | iter s pos=>
   obtain⟨bs,h2,_⟩:=h1
   rw[h2]
   exact g.same _ _ h2 (.inr rfl)
 | mp m=>
   obtain⟨es,cl,h2,_⟩:=h1
   rw[h2]
   exact g.same _ _ h2 (.inr rfl)
theorem Step.gr {ρ ρ':RM} {H H':Tr Blk} {nx nx':Nat} {w w' w2:World} (s:Step ρ H nx ro w ρ' H' nx' w') (g:Gr w.heap.size w' w2):Step ρ H nx ro w ρ' H' nx' w2:=by
 refine⟨g.os.trans s.os,g.tape.trans s.tape,g.output.trans s.output,Nat.le_trans s.size g.size,s.up,s.ext,fun x hx h=>?_,fun b l h1 h2 h3=>?_,s.live,s.old⟩
 ·have h1:=s.keep x hx h
  obtain⟨o,ho⟩:∃o,w.heap[x]?=some o:=⟨w.heap[x],by simp[hx]⟩
  rw[g.same x o (h1.trans ho) (.inl hx)]
  exact ho.symm
 ·rcases s.fresh b l h1 h2 h3 with⟨h4,h5⟩ | h4
  ·exact .inl ⟨h4,Nat.lt_of_lt_of_le h5 g.size⟩
  ·exact .inr h4
def ksl (P:Program) (gl:List Nat) (f:FuncId) (it:ItF):Prop:=
 ∀free H ys,it free H=some ys→∀(ρ:RM) (w:World) (lb:Array Value),HR ρ H w→GLok gl ρ→VRs ρ free lb.toList→
  (∃fn,P.funcs[f]?=some fn∧(fn.name== "runtime.NumGoroutine")=false∧fn.body.isSome=true)∧
  ∃zs:List (Array Value),zs.length=ys.1.length∧(∀(i:Nat) (y:List AV) (z:Array Value),ys.1[i]?=some y→zs[i]?=some z→VRs ρ y z.toList)∧
   ∃Rdy:World→Prop,(∀ρ' H' w',ρ.Le ρ'→it free H'=some ys→HR ρ' H' w'→Rdy w')∧kc2 P f lb zs Rdy w
def j3q (P:Program) (gl:List Nat) (its:Its):Prop:=∀f it,kjw its f=some it→ksl P gl f it
def jo1 (P:Program) (gl:List Nat) (nt ro:Nat) (r:Option Nat) (n:Nat) (code:Code) (f:St→Option (Ex×St)):Prop:=
 ∀(tm:Tr AV) (H:Tr Blk) (nx:Nat) (e:Ex) (tm':Tr AV) (H':Tr Blk) (nx':Nat),f (tm,H,nx)=some (e,tm',H',nx')→ro≤nx→
  ∀(ρ:RM) (a:Act) (w:World) (Q:Exit→Act→World→Prop),TR ρ nt tm a→GLok gl ρ→HR ρ H w→Free ρ nx nx'→WF H nx→
   (∀ρ' a' w',LeftM gl nt ρ H nx ro w a tm' H' nx' a' w' ρ'→Q e.to a' w')→code.wpIn (Fr r) n P Q a w
theorem j1i {r:Option Nat} {nn:Nat} {code:Code} {f:St→Option (Ex×St)} (hsy:∀tm H nx e tm' H' nx',f (tm,H,nx)=some (e,tm',H',nx')→Syn H nx ro H' nx') (hf:jo1 P gl nt ro r nn code f):
  ∀(n:Nat) (tm:Tr AV) (H:Tr Blk) (nx:Nat) (e:Ex) (tm':Tr AV) (H':Tr Blk) (nx':Nat),iter f n (tm,H,nx)=some (e,tm',H',nx')→ro≤nx→
   ∀(ρ:RM) (a:Act) (w:World) (Q:Exit→Act→World→Prop),TR ρ nt tm a→GLok gl ρ→HR ρ H w→Free ρ nx nx'→WF H nx→
    (∀ρ' a' w',LeftM gl nt ρ H nx ro w a tm' H' nx' a' w' ρ'→Q e.to a' w')→Code.roundsIn (Fr r) nn P code Q n a w
 | 0,_,_,_,_,_,_,_,h,_,_,_,_,_,_,_,_,_,_,_=>by cases h
 | n+1,tm,H,nx,e,tm',H',nx',h,hro,ρ,a,w,Q,ht,hgl,hr,hfr,hwf,hQ=>by
   rw[roundsIn_succ]
   unfold iter at h
   split at h
   ·rename_i s1 h1
    obtain⟨tm1,H1,nx1⟩:=s1
    have s:=hsy _ _ _ _ _ _ _ h1
    have s2:=jzs hsy n _ _ _ _ _ _ _ h
    refine hf _ _ _ _ _ _ _ h1 hro ρ a w _ ht hgl hr (hfr.left s2.up) hwf fun ρ1 a1 w1 L=>?_
    refine j1i hsy hf n _ _ _ _ _ _ _ h (Nat.le_trans hro s.up) ρ1 a1 w1 Q L.tr L.gl L.hr (L.step.free hfr) (s.wf hwf) fun ρ2 a2 w2 L2=>hQ _ _ _ (L.trans L2)
   ·rename_i r hr'
    refine hf _ _ _ _ _ _ _ h hro ρ a w _ ht hgl hr hfr hwf fun ρ1 a1 w1 L=>?_
    cases e with
    | normal=>exact absurd h (hr' _)
    | exit id=>exact hQ _ _ _ L
    | ret=>exact hQ _ _ _ L
theorem j6f {ρ:RM} {nt:Nat}:∀ {ps:List Nat} {y:List AV} {z:List Value} {tm:Tr AV} {t:Array Value},y.length=ps.length→(∀p∈ps,p<nt)→VRs ρ y z→TR ρ nt tm { tmps:=t,defers:=[] }→
  z.length=ps.length∧TR ρ nt (j4k ps y tm) { tmps:=(ps.zip z).foldl (fun t (p,v)=>t.setIfInBounds p v) t,defers:=[] }
 | [],[],z,tm,t,_,_,h,ht=>by simp only[VRs] at h;subst h;exact⟨rfl,ht⟩
 | p::ps,a::y,z,tm,t,hl,hp,h,ht=>by
   obtain⟨v,z',rfl,h1,h2⟩:=h
   have t1:TR ρ nt (tm.set p a) { tmps:=t.setIfInBounds p v,defers:=[] }:=ht.put (d:=some p) (by simpa[inB] using hp p (by simp)) h1
   obtain⟨k1,k2⟩:=j6f (by simpa using hl) (fun q hq=>hp q (by simp[hq])) h2 t1
   exact⟨by simp[k1],k2⟩
 | [],_::_,_,_,_,hl,_,_,_=>by simp at hl
 | _::_,[],_,_,_,hl,_,_,_=>by simp at hl
theorem je0 {its:Its} (hits:j3q P gl its) (hcall:jkv P gl call) (hsyn:jji call) (hm:P.follows .mixedOrders=true):∀(code:Code) (c:CC),cc P gl its nt code=some c→∀(r:Option Nat) (n:Nat),(r=none∨kjr c=true)→jo1 P gl nt ro r n code (exec call ro c)
 | .skip,c,hc=>by
   simp only[cc,Option.some.injEq] at hc
   subst hc
   intro rr nn hrf tm H nx e tm' H' nx' h hro ρ a w Q ht hgl hr hf hwf hQ
   simp only[exec,Option.some.injEq,Prod.mk.injEq] at h
   obtain⟨rfl,rfl,rfl,rfl⟩:=h
   exact wpIn_skip (hQ _ _ _ (LeftM.refl ht hgl hr))
 | .label l,c,hc=>by
   simp only[cc,Option.some.injEq] at hc
   subst hc
   intro rr nn hrf tm H nx e tm' H' nx' h hro ρ a w Q ht hgl hr hf hwf hQ
   simp only[exec,Option.some.injEq,Prod.mk.injEq] at h
   obtain⟨rfl,rfl,rfl,rfl⟩:=h
   exact wpIn_label (hQ _ _ _ (LeftM.refl ht hgl hr))
 | .scope x,c,hc=>by
   simp only[cc] at hc
   split at hc<;>try (cases hc;done)
   rename_i c1 h1
   simp only[Option.some.injEq] at hc
   subst hc
   have k1:=je0 hits hcall hsyn hm x c1 h1
   intro rr nn hrf tm H nx e tm' H' nx' h hro ρ a w Q ht hgl hr hf hwf hQ
   refine kds (k1 rr nn hrf _ _ _ _ _ _ _ h hro ρ a w _ ht hgl hr hf hwf fun ρ1 a1 w1 L=>?_)
   have:=hQ _ _ _ L
   cases e<;>exact this
 | .exit id,c,hc=>by
   simp only[cc,Option.some.injEq] at hc
   subst hc
   intro rr nn hrf tm H nx e tm' H' nx' h hro ρ a w Q ht hgl hr hf hwf hQ
   simp only[exec,Option.some.injEq,Prod.mk.injEq] at h
   obtain⟨rfl,rfl,rfl,rfl⟩:=h
   exact wpIn_exit (hQ _ _ _ (LeftM.refl ht hgl hr))
 | .ret,c,hc=>by
   simp only[cc,Option.some.injEq] at hc
   subst hc
   intro rr nn hrf tm H nx e tm' H' nx' h hro ρ a w Q ht hgl hr hf hwf hQ
   simp only[exec,Option.some.injEq,Prod.mk.injEq] at h
   obtain⟨rfl,rfl,rfl,rfl⟩:=h
   exact wpIn_ret (hQ _ _ _ (LeftM.refl ht hgl hr))
 | .region id ops d,c,hc=>by
   intro rr nn hrf tm H nx e tm' H' nx' h hro ρ a w Q ht hgl hr hf hwf hQ
   simp only[cc] at hc
   by_cases hcalm:j0a ops=true
   case neg=>rw[if_pos (by simpa using hcalm)] at hc;cases hc
   rw[if_neg (by simpa using hcalm)] at hc
   split at hc
   ·rename_i cs hcs
    have go:∀l,c=.region l→jfb call ro l (tm,H,nx)=some (tm',H',nx')∧e=.normal:=by
     rintro l rfl
     simp only[exec] at h
     split at h
     ·rename_i s1 h1
      simp only[Option.some.injEq,Prod.mk.injEq] at h
      obtain⟨rfl,rfl⟩:=h
      exact⟨h1,rfl⟩
     ·cases h
    have nl:¬LetsOut (fun(x:Exit) (a':Act) (w':World)=>x=.normal∧∃ρ',Left gl nt ρ H nx ro w a tm' H' nx' a' w' ρ'):=by
     rintro ⟨_,_,h,_⟩;cases h
    have fin:∀(x:Exit) (a':Act) (w':World),e=.normal→(x=.normal∧∃ρ',Left gl nt ρ H nx ro w a tm' H' nx' a' w' ρ')→Q x a' w':=by
     rintro x a' w' rfl ⟨rfl,ρ',L⟩
     exact hQ _ _ _ L.m
    cases d with
    | false=>
      simp only[Bool.false_eq_true,if_false,Option.some.injEq] at hc
      obtain⟨h1,he⟩:=go cs hc.symm
      refine wpIn_mono (wpIn_region_list (jzl nl _ hcalm _ _ (ju6 hcall hsyn _ _ hcs ρ tm H nx tm' H' nx' a w h1 ht hgl hr hf hro hwf fun ρ' a' w' L=>⟨rfl,ρ',L⟩))) fun x a' w'=>fin x a' w' he
    | true=>
      simp only[if_true] at hc
      split at hc
      ·simp only[Option.map_eq_some_iff] at hc
       obtain⟨ms,hd,rfl⟩:=hc
       obtain⟨h1,he⟩:=go ms rfl
       exact wpIn_mono (wpIn_region_any hm (j3e nl hcalm _ _ _ _ (j5g hcall hsyn hm hcs hd h1 ht hgl hr hf hro hwf fun ρ' a' w' L=>⟨rfl,ρ',L⟩))) fun x a' w'=>fin x a' w' he
      ·rename_i i π _
       by_cases hπ:kam (i::π) ops=true
       ·rw[if_pos hπ] at hc
        split at hc
        ·rename_i cs' hcs'
         simp only[Option.map_eq_some_iff] at hc
         obtain⟨ms,hd,rfl⟩:=hc
         obtain⟨h1,he⟩:=go ms rfl
         exact wpIn_mono (wpIn_region_any hm (j3e nl hcalm _ _ _ _ (j8p hcall hsyn hm hπ hcs' hd h1 ht hgl hr hf hro hwf fun ρ' a' w' L=>⟨rfl,ρ',L⟩))) fun x a' w'=>fin x a' w' he
        ·cases hc
       ·rw[if_neg hπ] at hc
        cases hc
   ·cases hc
 | .seq x y,c,hc=>by
   simp only[cc] at hc
   split at hc
   ·rename_i c1 c2 h1 h2
    cases hc
    have k1:=je0 hits hcall hsyn hm x c1 h1
    have k2:=je0 hits hcall hsyn hm y c2 h2
    intro rr nn hrf tm H nx e tm' H' nx' h hro ρ a w Q ht hgl hr hf hwf hQ
    simp only[exec] at h
    refine wpIn_seq ?_
    split at h
    ·rename_i s1 h1
     obtain⟨tm1,H1,nx1⟩:=s1
     have s:=jdw (ro:=ro) hsyn c1 _ _ _ _ _ _ _ h1
     have s2:=jdw (ro:=ro) hsyn c2 _ _ _ _ _ _ _ h
     refine k1 rr nn (hrf.imp (fun h=>h) fun h=>(jbq h).1) _ _ _ _ _ _ _ h1 hro ρ a w _ ht hgl hr (hf.left s2.up) hwf fun ρ1 a1 w1 L=>?_
     exact k2 rr nn (hrf.imp (fun h=>h) fun h=>(jbq h).2) _ _ _ _ _ _ _ h (Nat.le_trans hro s.up) ρ1 a1 w1 Q L.tr L.gl L.hr (L.step.free hf) (s.wf hwf) fun ρ2 a2 w2 L2=>hQ _ _ _ (L.trans L2)
    ·rename_i r hr'
     refine k1 rr nn (hrf.imp (fun h=>h) fun h=>(jbq h).1) _ _ _ _ _ _ _ h hro ρ a w _ ht hgl hr hf hwf fun ρ1 a1 w1 L=>?_
     cases e with
     | normal=>exact absurd h (hr' _)
     | exit id=>exact hQ _ _ _ L
     | ret=>exact hQ _ _ _ L
   ·cases hc
 | .cond c0 x y,c,hc=>by
   simp only[cc] at hc
   split at hc
   ·rename_i cx c1 c2 h0 h1 h2
    cases hc
    have k1:=je0 hits hcall hsyn hm x c1 h1
    have k2:=je0 hits hcall hsyn hm y c2 h2
    intro rr nn hrf tm H nx e tm' H' nx' h hro ρ a w Q ht hgl hr hf hwf hQ
    simp only[exec] at h
    have hv:=jqm ht hgl c0 cx h0
    split at h
    ·rename_i hq
     rw[hq] at hv
     simp only[VR] at hv
     exact wpIn_cond_true hv (k1 rr nn (hrf.imp (fun h=>h) fun h=>(jbq h).1) _ _ _ _ _ _ _ h hro ρ a w Q ht hgl hr hf hwf hQ)
    ·rename_i hq
     rw[hq] at hv
     simp only[VR] at hv
     exact wpIn_cond_false hv (k2 rr nn (hrf.imp (fun h=>h) fun h=>(jbq h).2) _ _ _ _ _ _ _ h hro ρ a w Q ht hgl hr hf hwf hQ)
    ·cases h
   ·cases hc
 | .block id b,c,hc=>by
   simp only[cc,Option.map_eq_some_iff] at hc
   obtain⟨c1,h1,rfl⟩:=hc
   have k1:=je0 hits hcall hsyn hm b c1 h1
   intro rr nn hrf tm H nx e tm' H' nx' h hro ρ a w Q ht hgl hr hf hwf hQ
   simp only[exec] at h
   refine wpIn_block ?_
   split at h
   ·rename_i i s1 h2
    obtain⟨tm1,H1,nx1⟩:=s1
    rcases je4 h with⟨hi,h⟩ | ⟨hi,h⟩<;>simp only[Option.some.injEq,Prod.mk.injEq] at h<;>obtain⟨rfl,rfl,rfl,rfl⟩:=h
    ·refine k1 rr nn (hrf.imp (fun h=>h) fun h=>h) _ _ _ _ _ _ _ h2 hro ρ a w _ ht hgl hr hf hwf fun ρ1 a1 w1 L=>?_
     have:i=id:=by simpa[jaa] using hi
     simp only[Ex.to,Exit.inBlock,this,if_true]
     exact hQ _ _ _ L
    ·refine k1 rr nn (hrf.imp (fun h=>h) fun h=>h) _ _ _ _ _ _ _ h2 hro ρ a w _ ht hgl hr hf hwf fun ρ1 a1 w1 L=>?_
     have:i≠id:=by simpa[jaa] using hi
     simp only[Ex.to,Exit.inBlock,this,if_false]
     exact hQ _ _ _ L
   ·rename_i r hr'
    refine k1 rr nn (hrf.imp (fun h=>h) fun h=>h) _ _ _ _ _ _ _ h hro ρ a w _ ht hgl hr hf hwf fun ρ1 a1 w1 L=>?_
    cases e with
    | normal=>exact hQ _ _ _ L
    | exit id=>exact absurd h (hr' _ _)
    | ret=>exact hQ _ _ _ L
 | .loop b,c,hc=>by
   simp only[cc,Option.map_eq_some_iff] at hc
   obtain⟨c1,h1,rfl⟩:=hc
   have k1:=je0 hits hcall hsyn hm b c1 h1
   intro rr nn hrf tm H nx e tm' H' nx' h hro ρ a w Q ht hgl hr hf hwf hQ
   simp only[exec] at h
   exact wpIn_loop_rounds fuel (j1i (fun tm H nx e tm' H' nx'=>jdw hsyn c1 tm H nx e tm' H' nx') (k1 rr nn (hrf.imp (fun h=>h) fun h=>h)) fuel _ _ _ _ _ _ _ h hro ρ a w Q ht hgl hr hf hwf hQ)
 | .goto _,c,hc=>by
   simp only[cc,Option.some.injEq] at hc
   subst hc
   intro rr nn hrf tm H nx e tm' H' nx' h
   cases h
 | .refuse _,c,hc=>by
   simp only[cc,Option.some.injEq] at hc
   subst hc
   intro rr nn hrf tm H nx e tm' H' nx' h
   cases h
 | .rangeFunc g ps (.region id ops false) b,c,hc=>by
   simp only[cc] at hc
   split at hc
   ·cases hc
    intro rr nn hrf tm H nx e tm' H' nx' h
    cases h
   ·rename_i p0 its'
    split at hc<;>try (cases hc;done)
    rename_i x as cb hx has hcb
    by_cases hok:(kjr cb&&j0a ops&&ps.toList.all (fun p=>p.blt nt))=true
    case neg=>rw[if_neg hok] at hc;cases hc
    rw[if_pos hok] at hc
    cases hc
    simp only[Bool.and_eq_true] at hok
    obtain⟨⟨hnr,hcalm⟩,hps⟩:=hok
    have k1:=je0 hits hcall hsyn hm b cb hcb
    intro rr nn hrf tm H nx e tm' H' nx' h hro ρ a w Q ht hgl hr hf hwf hQ
    have hrr:rr=none:=by
     rcases hrf with h | h
     ·exact h
     ·cases h
    subst hrr
    obtain⟨rfl,f,free,it,ys,hv,hit,hys,hyl0,F,hrng,hF⟩:=juy h
    have hvg:=jqm ht hgl g x hx
    rw[hv] at hvg
    simp only[VR] at hvg
    obtain⟨xs,lb,hev,hxs,hlb⟩:=hvg
    simp only[VRs] at hxs
    have hxs0:xs=#[]:=Array.toList_inj.1 hxs
    subst hxs0
    obtain⟨⟨fn,hfn,hname,hbody⟩,zs,hzl,hzr,Rdy,hRdy,hspec⟩:=hits f it hit free H ys hys ρ w lb hr hgl hlb
    have hpb:∀p∈ps.toList,p<nt:=fun p hp=>by
     have:=List.all_eq_true.1 hps p hp
     have h2:(p+1).ble nt=true:=this
     rw[jae,decide_eq_true_eq] at h2
     exact h2
    have hsynF:∀y H nx e H' nx',F y H nx=some (e,H',nx')→Syn H nx ro H' nx':=fun y H nx e H' nx' h=>by
     obtain⟨s1,tm2,h1,h2⟩:=hF _ _ _ _ _ _ h
     obtain⟨tm1,H1,nx1⟩:=s1
     exact(jg4 hsyn as _ _ _ _ _ _ h1).trans (jdw hsyn cb _ _ _ _ _ _ _ h2)
    have hle0:∀ {ρi:RM} {Hi:Tr Blk} {nxi:Nat} {W:World},nxi≤nx'→Step ρ H nx ro w ρi Hi nxi W→ρ.Le ρi:=fun hn hs=>hs.le (hf.left hn)
    have pick:∀(i:Nat) (z:Array Value),zs[i]?=some z→∃y,ys.1[i]?=some y∧VRs ρ y z.toList∧y.length=ps.size:=fun i z hz=>by
     have hlt:i<ys.1.length:=by rw[←hzl];exact(List.getElem?_eq_some_iff.1 hz).1
     have hy:ys.1[i]?=some ys.1[i]:=List.getElem?_eq_getElem hlt
     exact⟨_,hy,hzr i _ z hy hz,by have:=hyl0 ys.1[i] (List.getElem_mem hlt);simpa using this⟩
    refine jwz hev (fun args w=>jmn hfn hname hbody args w) (zs:=zs) (fun z hz=>?_) hspec
     (fun i W=>∃Hi nxi ρi,j4d (fun H=>it free H=some ys) F (ys.1.drop i) Hi nxi=some (e,H',nx')∧it free Hi=some ys∧HR ρi Hi W∧GLok gl ρi∧Step ρ H nx ro w ρi Hi nxi W∧Syn H nx ro Hi nxi)
     (fun e0 W=>e0=e∧∃ρ',HR ρ' H' W∧GLok gl ρ'∧Step ρ H nx ro w ρ' H' nx' W)
     ?_ ?_ ?_ ?_ ?_ ?_ ?_
    ·obtain⟨i,hi⟩:=List.mem_iff_getElem?.1 hz
     obtain⟨y,_,h1,h2⟩:=pick i z hi
     rw[←h2,h1.length];simp
    ·rintro i W W' ⟨Hi,nxi,ρi,h1,h2,h3,h4,h5,h6⟩ hg
     exact⟨Hi,nxi,ρi,h1,h2,h3.gr hg,h4,h5.gr hg,h6⟩
    ·rintro e0 W W' ⟨h0,ρ',h3,h4,h5⟩ hg
     exact⟨h0,ρ',h3.gr hg,h4,h5.gr hg⟩
    ·rintro i W ⟨Hi,nxi,ρi,h1,h2,h3,h4,h5,h6⟩
     exact hRdy ρi Hi W (hle0 (jqf hsynF _ _ _ _ _ _ h1).up h5) h2 h3
    ·exact⟨H,nx,ρ,by rw[List.drop_zero];exact hrng,hys,hr,hgl,Step.refl _ _ _ _ _,Syn.refl _ _ _⟩
    ·rintro l i z W hz ⟨Hi,nxi,ρi,h1,h2,h3,h4,h5,h6⟩
     obtain⟨y,hy,hyz,hyl⟩:=pick i z hz
     have hlt:i<ys.1.length:=(List.getElem?_eq_some_iff.1 hy).1
     have hdrop:ys.1.drop i=y::ys.1.drop (i+1):=by
      rw[List.drop_eq_getElem_cons hlt]
      congr 1
      rw[List.getElem?_eq_getElem hlt] at hy
      exact Option.some.inj hy
     rw[hdrop] at h1
     have hup:=(jqf hsynF _ _ _ _ _ _ (by rw[hdrop];exact h1:j4d (fun H=>it free H=some ys) F (ys.1.drop i) Hi nxi=some (e,H',nx'))).up
     have hlei:=hle0 hup h5
     have hround:∃e1 H2 nx2,F y Hi nxi=some (e1,H2,nx2)∧((e1=.normal∧it free H2=some ys∧j4d (fun H=>it free H=some ys) F (ys.1.drop (i+1)) H2 nx2=some (e,H',nx'))∨(e1≠ .normal∧e1=e∧H2=H'∧nx2=nx')):=by
      unfold j4d at h1
      split at h1
      ·rename_i H2 nx2 hq
       by_cases hit2:it free H2=some ys
       ·rw[if_pos hit2] at h1
        exact⟨_,_,_,hq,.inl ⟨rfl,hit2,h1⟩⟩
       ·rw[if_neg hit2] at h1;cases h1
      ·rename_i q hq
       refine⟨e,H',nx',h1,.inr ⟨fun he=>?_,rfl,rfl,rfl⟩⟩
       subst he
       exact hq _ _ h1
     obtain⟨e1,H2,nx2,hFy,hend⟩:=hround
     obtain⟨s1,tm2,hr1,hr2⟩:=hF _ _ _ _ _ _ hFy
     obtain⟨tm1,H1,nx1⟩:=s1
     have sy1:=jg4 (ro:=ro) hsyn as _ _ _ _ _ _ hr1
     have sy2:=jdw (ro:=ro) hsyn cb _ _ _ _ _ _ _ hr2
     have hnx2:nx2≤nx':=by
      rcases hend with⟨_,_,h⟩ | ⟨_,_,_,h⟩
      ·exact(jqf hsynF _ _ _ _ _ _ h).up
      ·omega
     have hfi:Free ρi nxi nx':=h5.free hf
     have hroi:ro≤nxi:=Nat.le_trans hro h6.up
     obtain⟨kz,ht1⟩:=j6f (z:=z.toList) (tm:=tm') (t:=a.tmps) (by simpa using hyl) hpb (VRs.mono hlei _ _ hyz) ⟨ht.size,fun n=>VR.mono hlei _ _ (ht.val n)⟩
     have nl:¬LetsOut (fun(x:Exit) (a':Act) (w':World)=>x=.normal∧∃ρ',Left gl nt ρi Hi nxi ro W { tmps:=(ps.toList.zip z.toList).foldl (fun t (p,v)=>t.setIfInBounds p v) a.tmps,defers:=[] } tm1 H1 nx1 a' w' ρ'):=by
      rintro ⟨_,_,h,_⟩;cases h
     have hrun:=ju6 hcall hsyn (Q:=fun(x:Exit) (a':Act) (w':World)=>x=.normal∧∃ρ',Left gl nt ρi Hi nxi ro W { tmps:=(ps.toList.zip z.toList).foldl (fun t (p,v)=>t.setIfInBounds p v) a.tmps,defers:=[] } tm1 H1 nx1 a' w' ρ')
      _ _ has ρi _ Hi nxi tm1 H1 nx1 _ W hr1 ht1 h4 h3 (hfi.left (by have:=sy2.up;omega)) hroi (h6.wf hwf) fun ρ' a' w' L=>⟨rfl,ρ',L⟩
     have ezip:(ps.zip z).foldl (fun t (p,v)=>t.setIfInBounds p v) a.tmps=(ps.toList.zip z.toList).foldl (fun t (p,v)=>t.setIfInBounds p v) a.tmps:=by
      rw[←Array.foldl_toList,Array.toList_zip]
     rw[ezip]
     refine wpIn_mono (wpIn_region_list (jzl nl _ hcalm _ _ hrun)) ?_
     rintro x a1 W1 ⟨rfl,ρ1,L⟩
     refine⟨L.step.keeps h3,fun W2 hg2=>?_⟩
     have hs1:Step ρ H nx ro w ρ1 H1 nx1 W2:=(h5.trans L.step).gr hg2
     refine k1 (some l) 2 (.inr hnr) _ _ _ _ _ _ _ hr2 (Nat.le_trans hroi sy1.up) ρ1 a1 W2 _ L.tr L.gl (L.hr.gr hg2) ((L.step.free hfi).left hnx2) (sy1.wf (h6.wf hwf)) fun ρ2 a2 W3 L2=>?_
     have hk:=L2.step.keeps (L.hr.gr hg2)
     have hst:=hs1.trans L2.step
     rcases hend with⟨rfl,hit2,hrest⟩ | ⟨hne,rfl,rfl,rfl⟩
     ·exact⟨hk,H2,nx2,ρ2,hrest,hit2,L2.hr,L2.gl,hst,(h6.trans sy1).trans sy2⟩
     ·cases e1 with
      | normal=>exact absurd rfl hne
      | exit id=>exact⟨hk,rfl,ρ2,L2.hr,L2.gl,hst⟩
      | ret=>exact⟨hk,rfl,ρ2,L2.hr,L2.gl,hst⟩
    ·rintro D W hD ⟨Hi,nxi,ρi,h1,h2,h3,h4,h5,h6⟩ hDm
     rw[hzl,List.drop_length] at h1
     simp only[j4d,Option.some.injEq,Prod.mk.injEq] at h1
     obtain⟨rfl,rfl,rfl⟩:=h1
     exact hQ ρi { a with defers:={ target:=.collected D,args:=#[] }::a.defers } W ⟨h5,h3,⟨ht.size,fun n=>VR.mono (hle0 (Nat.le_refl _) h5) _ _ (ht.val n)⟩,h4,[{ target:=.collected D,args:=#[] }],rfl,fun d hd=>⟨D,List.mem_singleton.1 hd,hD,hDm⟩,List.pairwise_singleton _ _⟩
    ·rintro D e0 W hD hne ⟨rfl,ρ',h3,h4,h5⟩ hDm
     exact hQ ρ' { a with defers:={ target:=.collected D,args:=#[] }::a.defers } W ⟨h5,h3,⟨ht.size,fun n=>VR.mono (hle0 (Nat.le_refl _) h5) _ _ (ht.val n)⟩,h4,[{ target:=.collected D,args:=#[] }],rfl,fun d hd=>⟨D,List.mem_singleton.1 hd,hD,hDm⟩,List.pairwise_singleton _ _⟩
 | .rangeFunc g ps .skip b,c,hc | .rangeFunc g ps (.label _) b,c,hc | .rangeFunc g ps (.scope _) b,c,hc | .rangeFunc g ps (.exit _) b,c,hc | .rangeFunc g ps .ret b,c,hc | .rangeFunc g ps (.seq _ _) b,c,hc
 | .rangeFunc g ps (.cond _ _ _) b,c,hc | .rangeFunc g ps (.block _ _) b,c,hc | .rangeFunc g ps (.loop _) b,c,hc | .rangeFunc g ps (.goto _) b,c,hc | .rangeFunc g ps (.refuse _) b,c,hc | .rangeFunc g ps (.rangeFunc _ _ _ _) b,c,hc
 | .rangeFunc g ps (.region _ _ true) b,c,hc=>by
   simp only[cc,Option.some.injEq] at hc
   subst hc
   intro rr nn hrf tm H nx e tm' H' nx' h
   cases h
end
end Go.Vm
