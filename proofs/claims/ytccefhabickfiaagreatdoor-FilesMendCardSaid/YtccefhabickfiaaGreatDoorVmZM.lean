/- Parts of the proof. -/
import Derived.Test.YtccefhabickfiaaGreatDoorVmY2
set_option linter.unusedSimpArgs false
set_option linter.defProp false
set_option linter.unusedVariables false
namespace Go.Vm
def jaq {f:St->Option (Ex×St)} {ro:Nat} (hf:∀tm H nx e tm' H' nx',f (tm,H,nx)=some (e,tm',H',nx')->Syn H nx ro H' nx'):
  ∀(n:Nat) (tm:Tr AV) (H:Tr Blk) (nx:Nat) (e:Ex) (tm':Tr AV) (H':Tr Blk) (nx':Nat),iter f n (tm,H,nx)=some (e,tm',H',nx')->Syn H nx ro H' nx'
 | 0,_,_,_,_,_,_,_,h=>by cases h
 | n+1,tm,H,nx,e,tm',H',nx',h=>by
   unfold iter at h;split at h
   ·rename_i s1 h1;obtain⟨tm1,H1,nx1⟩:=s1;have s:=hf _ _ _ _ _ _ _ h1;exact s.trans (jaq hf n _ _ _ _ _ _ _ h)
   ·rename_i r hr;exact hf _ _ _ _ _ _ _ h
def yQ {ok:Tr Blk->Prop} {f:List AV->Tr Blk->Nat->Option (Ex×Tr Blk×Nat)} {ro:Nat} (hf:∀y H nx e H' nx',f y H nx=some (e,H',nx')->Syn H nx ro H' nx'):
  ∀(l:List (List AV)) (H:Tr Blk) (nx:Nat) (e:Ex) (H':Tr Blk) (nx':Nat),kI ok f l H nx=some (e,H',nx')->Syn H nx ro H' nx'
 | [],H,nx,e,H',nx',h=>by
   simp only[kI,aG,aM] at h;obtain⟨_,rfl,rfl⟩:=h;exact Syn.refl _ _ _
 | y::l,H,nx,e,H',nx',h=>by
   unfold kI at h;split at h
   ·rename_i H1 nx1 h1;split at h
    ·exact(hf _ _ _ _ _ _ h1).trans (yQ hf l _ _ _ _ _ h)
    ·cases h
   ·exact hf _ _ _ _ _ _ h
def Rp (y:List AV) (H:Tr Blk) (nx ro:Nat):Syn H nx ro (gE y H nx).2.1 (gE y H nx).2.2:=by
 unfold gE;split
 ·exact Syn.refl _ _ _
 ·exact Syn.new H nx ro _
 ·exact Syn.refl _ _ _
def Sa {ρ:RM} {a b c:Nat} {d:Option Nat} {l:List AV} {z:List Value} (h:VRs ρ [.agg (.sl a b c d 0::l)] z):False:=by
 obtain⟨v,vs,_,⟨cs,_,⟨v1,vs1,_,⟨l,c,off,_,_,_,h0,_⟩,_⟩⟩,_⟩:=h;exact absurd h0 (by decide)
def j0l {ρ:RM} {y:List AV} {z:List Value} (h:VRs ρ y z) (H:Tr Blk) (nx:Nat):gE y H nx=(y,H,nx):=by
 unfold gE;split
 ·exact(Sa h).elim
 ·exact(Sa h).elim
 ·rfl
def j70 {ρ:RM} {ys:List (List AV)} {zs:List (Array Value)} (hl:zs.length=ys.length) (h:∀(i:Nat) (y:List AV) (z:Array Value),ys[i]?=some y->zs[i]?=some z->VRs ρ y z.toList) (ro:Nat) (H:Tr Blk):nR ro ys H=some H/\boxed ys=false:=by
 cases ys with
 | nil=>exact⟨rfl,rfl⟩
 | cons y ys=>
   cases zs with
   | nil=>simp at hl
   | cons z zs=>
     have hv:=h 0 y z rfl rfl;refine⟨?_,?_⟩
     ·unfold nR;split
      ·rename_i e;cases e;exact(Sa hv).elim
      ·rfl
     ·unfold boxed;split
      ·rename_i e;cases e;exact(Sa hv).elim
      ·rfl
def jp8 {l:List (List AV)} {H H0:Tr Blk} {ro:Nat} (nx:Nat) (h:nR ro l H=some H0):Syn H nx ro H0 nx:=by
 unfold nR at h;split at h
 ·obtain⟨hc,h⟩:=aR h;simp only[aN,aP,aH] at hc;cases h;exact Syn.del hc.1
 ·cases h;exact Syn.refl _ _ _
def jod {call:FuncId->List AV->Tr Blk->Nat->Nat->bN} {ro:Nat} {x:Opd} {its:nV} {ps:List Nat} {as:List COp} {b:CC} {tm tm':Tr AV} {H H':Tr Blk} {nx nx':Nat} {e:Ex}
  (h:exec call ro (.rangeF x its ps as b) (tm,H,nx)=some (e,tm',H',nx')):tm'=tm/\∃f free it ys H0,aT tm x=.fn (.func f) [] free/\Ef its f=some it/\it free H=some ys/\(∀y∈ys.1,y.length=ps.length)/\nR ro ys.1 H=some H0/\
    ∃g:List AV->Tr Blk->Nat->Option (Ex×Tr Blk×Nat),kI (λH=>it free H=some ys\/boxed ys.1=true) g ys.1 H0 nx=some (e,H',nx')/\
     ∀y H nx e H' nx',g y H nx=some (e,H',nx')->∃s1 tm2,jR call ro as (Az ps (gE y H nx).1 tm,(gE y H nx).2.1,(gE y H nx).2.2)=some s1/\exec call ro b s1=some (e,tm2,H',nx'):=by
 simp only[exec] at h;split at h<;>try (cases h;done)
 rename_i f free hv;split at h<;>try (cases h;done)
 rename_i it hit;split at h<;>try (cases h;done)
 rename_i ys hys;obtain⟨hl,h2⟩:=aR h;split at h2<;>try (cases h2;done)
 rename_i H0 hH0;split at h2<;>try (cases h2;done)
 rename_i e1 H1 nx1 hr;simp only[aG,aM] at h2;obtain⟨rfl,rfl,rfl,rfl⟩:=h2;refine⟨rfl,f,free,it,ys,H0,hv,hit,hys,λy hy=>?_,hH0,_,hr,λy H nx e H' nx' hg=>?_⟩
 ·have:=bS.1 hl y hy;rwa[aL,aH] at this
 ·unfold Us at hg;split at hg<;>try (cases hg;done)
  rename_i s1 hs1;split at hg<;>try (cases hg;done)
  rename_i e2 tm2 H2 nx2 hs2;cases hg;exact⟨s1,tm2,hs1,hs2⟩
def lV {call:FuncId->List AV->Tr Blk->Nat->Nat->bN} (hsyn:iY call) {ro:Nat}:∀(c:CC) (tm:Tr AV) (H:Tr Blk) (nx:Nat) (e:Ex) (tm':Tr AV) (H':Tr Blk) (nx':Nat),
  exec call ro c (tm,H,nx)=some (e,tm',H',nx')->Syn H nx ro H' nx'
 | .skip,tm,H,nx,e,tm',H',nx',h=>by
   simp only[exec,aG,aM] at h;obtain⟨_,_,rfl,rfl⟩:=h;exact Syn.refl _ _ _
 | .region ops,tm,H,nx,e,tm',H',nx',h=>by
   simp only[exec] at h;split at h
   ·rename_i s1 h1;simp only[aG,aM] at h;obtain⟨_,rfl⟩:=h;exact uE hsyn ops _ _ _ _ _ _ h1
   ·cases h
 | .seq a b,tm,H,nx,e,tm',H',nx',h=>by
   simp only[exec] at h;split at h
   ·rename_i s1 h1;obtain⟨tm1,H1,nx1⟩:=s1;have s:=lV hsyn a _ _ _ _ _ _ _ h1;exact s.trans (lV hsyn b _ _ _ _ _ _ _ h)
   ·exact lV hsyn a _ _ _ _ _ _ _ h
 | .cond c a b,tm,H,nx,e,tm',H',nx',h=>by
   simp only[exec] at h;split at h
   ·exact lV hsyn a _ _ _ _ _ _ _ h
   ·exact lV hsyn b _ _ _ _ _ _ _ h
   ·cases h
 | .block id b,tm,H,nx,e,tm',H',nx',h=>by
   simp only[exec] at h;split at h
   ·rename_i i s1 h1;obtain⟨tm1,H1,nx1⟩:=s1;have s:=lV hsyn b _ _ _ _ _ _ _ h1;rcases mR h with⟨_,h⟩ | ⟨_,h⟩<;>simp only[aG,aM] at h<;>obtain⟨_,_,rfl,rfl⟩:=h<;>exact s
   ·exact lV hsyn b _ _ _ _ _ _ _ h
 | .loop b,tm,H,nx,e,tm',H',nx',h=>by
   simp only[exec] at h;exact jaq (λtm H nx e tm' H' nx'=>lV hsyn b tm H nx e tm' H' nx') fuel _ _ _ _ _ _ _ h
 | .rangeF x its ps as b,tm,H,nx,e,tm',H',nx',h=>by
   obtain⟨_,f,free,it,ys,H0,_,_,_,_,h0,g,hr,hg⟩:=jod h;refine(jp8 nx h0).trans (yQ (λy H nx e H' nx' h=>?_) ys.1 _ _ _ _ _ hr);obtain⟨s1,tm2,h1,h2⟩:=hg _ _ _ _ _ _ h;obtain⟨tm1,H1,nx1⟩:=s1;exact(Rp y H nx ro).trans ((uE hsyn as _ _ _ _ _ _ h1).trans (lV hsyn b _ _ _ _ _ _ _ h2))
 | .exit id,tm,H,nx,e,tm',H',nx',h=>by
   simp only[exec,aG,aM] at h;obtain⟨_,_,rfl,rfl⟩:=h;exact Syn.refl _ _ _
 | .ret,tm,H,nx,e,tm',H',nx',h=>by
   simp only[exec,aG,aM] at h;obtain⟨_,_,rfl,rfl⟩:=h;exact Syn.refl _ _ _
 | .bad,tm,H,nx,e,tm',H',nx',h=>by cases h
section
variable {P:Program} {gl:List Nat} {nt:Nat} {call:FuncId->List AV->Tr Blk->Nat->Nat->bN} {ro:Nat}
def Marks (B:Nat) (ms:List Deferred) (w:World):Prop:=∀d∈ms,∃D,d={ target:=.collected D,args:=#[] }/\B<=D/\w.heap[D]?=some (.deferred (some []))
structure LeftM (gl:List Nat) (nt:Nat) (ρ:RM) (H:Tr Blk) (nx ro:Nat) (w:World) (a:Act) (tm':Tr AV) (H':Tr Blk) (nx':Nat) (a':Act) (w':World) (ρ':RM):Prop where
 step:Step ρ H nx ro w ρ' H' nx' w'
 hr:HR ρ' H' w'
 tr:TR ρ' nt tm' a'
 gl:GLok gl ρ'
 dfr:∃ms,a'.defers=ms++a.defers/\Marks w.heap.size ms w'/\ms.Pairwise (·≠·)
def Left.m {ρ ρ':RM} {H H':Tr Blk} {nx nx':Nat} {w w':World} {a a':Act} {tm':Tr AV} (h:Left gl nt ρ H nx ro w a tm' H' nx' a' w' ρ'):LeftM gl nt ρ H nx ro w a tm' H' nx' a' w' ρ':=
 ⟨h.step,h.hr,h.tr,h.gl,[],h.dfr,(λd hd=>by cases hd),.nil⟩
def LeftM.refl {ρ:RM} {tm:Tr AV} {H:Tr Blk} {nx:Nat} {a:Act} {w:World} (ht:TR ρ nt tm a) (hgl:GLok gl ρ) (hr:HR ρ H w):LeftM gl nt ρ H nx ro w a tm H nx a w ρ:=
 ⟨Step.refl _ _ _ _ _,hr,ht,hgl,[],rfl,(λd hd=>by cases hd),.nil⟩
def HR.norec {ρ:RM} {H:Tr Blk} {w:World} (h:HR ρ H w) {k:Nat} {o:Obj} (hk:w.heap[k]?=some o) (ho:Kb o=true) {b:Nat} {l:Loc} (hb:ρ b=some l) (hl:l.blk=k):¬(H.get b).isSome:=by
 intro hs;obtain⟨x,hx⟩:=lN.1 hs;have:=h.blk b x l hx hb;cases x with
 | cells c n=>
   obtain⟨cs,el,fr,h1,_⟩:=this;rw[hl,hk] at h1;cases h1;cases ho
 | iter s pos=>
   obtain⟨bs,h1,_⟩:=this;rw[hl,hk] at h1;cases h1;cases ho
 | mp m=>
   obtain⟨es,cl,h1,_⟩:=this;rw[hl,hk] at h1;cases h1;cases ho
def Step.keeps {ρ ρ':RM} {H H':Tr Blk} {nx nx':Nat} {w w':World} (s:Step ρ H nx ro w ρ' H' nx' w') (h:HR ρ H w):pZ w w':=λk o hk ho=>by
 have hlt:=(eJ.1 hk).1;rw[s.keep k hlt λb l hb hl hs=>absurd hs (h.norec hk ho hb hl)];exact hk
def Marks.keep {B:Nat} {ms:List Deferred} {w w':World} (h:Marks B ms w) (k:pZ w w'):Marks B ms w':=λd hd=>by
 obtain⟨D,h1,h2,h3⟩:=h d hd;exact⟨D,h1,h2,k _ _ h3 rfl⟩
def Marks.le {B B':Nat} {ms:List Deferred} {w:World} (h:Marks B ms w) (k:B'<=B):Marks B' ms w:=λd hd=>by
 obtain⟨D,h1,h2,h3⟩:=h d hd;exact⟨D,h1,by omega,h3⟩
def LeftM.trans {ρ ρ1 ρ2:RM} {H H1 H2:Tr Blk} {nx nx1 nx2:Nat} {w w1 w2:World} {a a1 a2:Act} {tm1 tm2:Tr AV} (s:LeftM gl nt ρ H nx ro w a tm1 H1 nx1 a1 w1 ρ1) (t:LeftM gl nt ρ1 H1 nx1 ro w1 a1 tm2 H2 nx2 a2 w2 ρ2):
  LeftM gl nt ρ H nx ro w a tm2 H2 nx2 a2 w2 ρ2:=by
 obtain⟨m1,d1,k1,p1⟩:=s.dfr;obtain⟨m2,d2,k2,p2⟩:=t.dfr;refine⟨s.step.trans t.step,t.hr,t.tr,t.gl,m2++m1,by rw[d2,d1,cD],λd hd=>?_,List.pairwise_append.2 ⟨p2,p1,λx hx y hy e=>?_⟩⟩
 ·rcases aZ.1 hd with h | h
  ·exact(k2.le s.step.size) d h
  ·exact(k1.keep (t.step.keeps s.hr)) d h
 ·subst e;obtain⟨D,h1,h2,h3⟩:=k2 x hx;obtain⟨D',h4,h5,h6⟩:=k1 x hy;rw[h1] at h4;simp only[Deferred.mk.injEq,Target.collected.injEq,mD] at h4;subst h4;have:=(eJ.1 h6).1;omega
def HR.gr {ρ:RM} {H:Tr Blk} {w w':World} {B:Nat} (h:HR ρ H w) (g:Gr B w w'):HR ρ H w':=by
 refine⟨λb k l hb hl=>?_,h.inj⟩;have h1:=h.blk b k l hb hl;refine Blk.Rel.mono (λ_ _ h=>h) h1 ?_;cases k with
 | cells c n=>
   obtain⟨cs,el,fr,h2,_⟩:=h1;rw[h2];exact g.same _ _ h2 (.inr rfl)
 | iter s pos=>
   obtain⟨bs,h2,_⟩:=h1;rw[h2];exact g.same _ _ h2 (.inr rfl)
 | mp m=>
   obtain⟨es,cl,h2,_⟩:=h1;rw[h2];exact g.same _ _ h2 (.inr rfl)
def Step.gr {ρ ρ':RM} {H H':Tr Blk} {nx nx':Nat} {w w' w2:World} (s:Step ρ H nx ro w ρ' H' nx' w') (g:Gr w.heap.size w' w2):Step ρ H nx ro w ρ' H' nx' w2:=by
 refine⟨g.os.trans s.os,g.tape.trans s.tape,g.output.trans s.output,eA s.size g.size,s.up,s.ext,λx hx h=>?_,λb l h1 h2 h3=>?_,s.live,s.old⟩
 ·have h1:=s.keep x hx h;obtain⟨o,ho⟩:∃o,w.heap[x]?=some o:=⟨w.heap[x],by simp[hx]⟩
  rw[g.same x o (h1.trans ho) (.inl hx)];exact ho.symm
 ·rcases s.fresh b l h1 h2 h3 with⟨h4,h5⟩ | h4
  ·exact .inl ⟨h4,kB h5 g.size⟩
  ·exact .inr h4
def jfm (P:Program) (gl:List Nat) (f:FuncId) (it:zB):Prop:=
 ∀free H ys,it free H=some ys->∀(ρ:RM) (w:World) (lb:Array Value),HR ρ H w->GLok gl ρ->VRs ρ free lb.toList->
  (∃fn,P.funcs[f]?=some fn/\(fn.name== "runtime.NumGoroutine")=false/\fn.body.isSome=true)/\
  ∃zs:List (Array Value),zs.length=ys.1.length/\(∀(i:Nat) (y:List AV) (z:Array Value),ys.1[i]?=some y->zs[i]?=some z->VRs ρ y z.toList)/\
   ∃Rdy:World->Prop,(∀ρ' H' w',ρ.Le ρ'->it free H'=some ys->HR ρ' H' w'->Rdy w')/\Xe P f lb zs Rdy w
def Sof (ρ:RM) (H:Tr Blk) (k:Nat):Prop:=∃b l,ρ b=some l/\l.blk=k/\(H.get b).isSome
def oA:Itm->List AV
 | .row k L=>uD k L
 | .val b v=>zT b v
def zV (ρ:RM) (l:List (List AV)) (k:Nat):Prop:=∃b o v r a1 a2 a3 a4 lc,l=[.agg [.sl a1 a2 a3 a4 0,.ptr b o,v]]::r/\ρ b=some lc/\lc.blk=k
def jfn (P:Program) (gl:List Nat) (f:FuncId) (it:zB):Prop:=
 ∀free H ys,it free H=some ys->∀(ρ:RM) (w:World) (lb:Array Value),HR ρ H w->GLok gl ρ->VRs ρ free lb.toList->
  (∃fn,P.funcs[f]?=some fn/\(fn.name== "runtime.NumGoroutine")=false/\fn.body.isSome=true)/\
  ∃rows:List Itm,ys.1=rows.map oA/\
   ∃Rdy:(Nat->Prop)->World->Prop,(∀ρ' H' w',ρ.Le ρ'->(it free H'=some ys\/boxed ys.1=true)->HR ρ' H' w'->Rdy (Sof ρ' H') w')/\Xf P f lb (zV ρ ys.1) rows Rdy w
def wL (P:Program) (gl:List Nat) (its:nV):Prop:=∀f it,Ef its f=some it->jfm P gl f it\/jfn P gl f it
def Sof.lt {ρ:RM} {H:Tr Blk} {w:World} (hr:HR ρ H w) {k:Nat} (h:Sof ρ H k):k<w.heap.size:=by
 obtain⟨b,l,h1,rfl,h2⟩:=h;obtain⟨x,hx⟩:=lN.1 h2;exact(hr.blk b x l hx h1).lt
def Step.sof {ρ ρ':RM} {H H':Tr Blk} {nx nx' ro:Nat} {w w':World} (s:Step ρ H nx ro w ρ' H' nx' w') {k:Nat} (hk:k<w.heap.size) (h:Sof ρ' H' k):Sof ρ H k:=by
 obtain⟨b,l,h1,rfl,h2⟩:=h;have key:nx<=b->b<nx'->Sof ρ H l.blk:=λa1 a2=>by
  rcases s.fresh b l a1 a2 h1 with⟨h3,_⟩ | ⟨b0,l0,_,h4,h5,h6⟩
  ·omega
  ·exact⟨b0,l0,h5,h6,h4⟩
 rcases s.live b h2 with⟨a1,a2⟩ | h3
 ·exact key a1 a2
 ·by_cases hb:nx<=b/\b<nx'
  ·exact key hb.1 hb.2
  ·exact⟨b,l,(s.ext b (by omega))▸h1,rfl,h3⟩
def HR.own {ρ:RM} {H:Tr Blk} {w w':World} {bx:Nat->Prop} (h:HR ρ H w) (hb:∀k,bx k->¬Sof ρ H k) (g:Own bx w w'):HR ρ H w':=by
 refine⟨λb k l hk hl=>(h.blk b k l hk hl).mono (RM.Le.refl _) ?_,h.inj⟩;have hr:=(h.blk b k l hk hl).lt;have ho:w.heap[l.blk]?=some w.heap[l.blk]:=by simp[hr]
 rw[g.same l.blk _ ho λhx=>hb _ hx ⟨b,l,hl,rfl,by rw[hk];rfl⟩,ho]
def Step.own {ρ ρ':RM} {H H':Tr Blk} {nx nx' ro:Nat} {w w' w2:World} {bx:Nat->Prop} (s:Step ρ H nx ro w ρ' H' nx' w') (hb:∀k,bx k->∃b l,ro<=b/\(H.get b).isSome/\ρ b=some l/\l.blk=k) (g:Own bx w' w2):Step ρ H nx ro w ρ' H' nx' w2:=by
 refine⟨g.os.trans s.os,g.tape.trans s.tape,g.output.trans s.output,eA s.size g.size,s.up,s.ext,λx hx h=>?_,λb l h1 h2 h3=>?_,s.live,s.old⟩
 ·have h1:=s.keep x hx h;obtain⟨o,ho⟩:∃o,w.heap[x]?=some o:=⟨w.heap[x],by simp[hx]⟩
  rw[g.same x o (h1.trans ho) λhxb=>by
   obtain⟨b,l,k1,k2,k3,k4⟩:=hb x hxb;have:=h b l k3 k4 k2;omega]
  exact ho.symm
 ·rcases s.fresh b l h1 h2 h3 with⟨h4,h5⟩ | h4
  ·exact .inl ⟨h4,kB h5 g.size⟩
  ·exact .inr h4
def j7z {ρ:RM} {l:List (List AV)} {H H0:Tr Blk} {ro nx:Nat} {w:World} (h:nR ro l H=some H0) (hr:HR ρ H w):HR ρ H0 w/\Step ρ H nx ro w ρ H0 nx w/\(∀k,zV ρ l k->¬Sof ρ H0 k)/\(∀k,zV ρ l k->∃b lc,ro<=b/\(H.get b).isSome/\ρ b=some lc/\lc.blk=k):=by
 unfold nR at h;split at h
 ·rename_i b o v r;obtain⟨hc,h⟩:=aR h;simp only[aN,aP,aH] at hc;cases h;have hro:=jC hc.1;have live:∀x,((H.del b).get x).isSome->x≠b/\(H.get x).isSome:=λx hx=>by
   rw[Tr.get_del] at hx;by_cases e:x=b
   ·rw[aK e] at hx;cases hx
   ·rw[aD e] at hx;exact⟨e,hx⟩
  refine⟨⟨λx k l' hx hl=>?_,λx y l1 l2 h1 h2=>hr.inj x y l1 l2 (live x h1).2 (live y h2).2⟩,⟨rfl,rfl,rfl,aU _,aU _,λ_ _=>rfl,λ_ _ _=>rfl,λx l' h1 h2=>by omega,λx hx=>.inr (live x hx).2,λx h1 h2=>?_⟩,?_,?_⟩
  ·have:=live x (by rw[hx];rfl);rw[Tr.get_del,aD this.1] at hx;exact hr.blk x k l' hx hl
  ·rw[Tr.get_del,aD (by omega)]
  ·rintro k ⟨b',o',v',r',_,_,_,_,lc,e,h1,rfl⟩ ⟨x,l',g1,g2,g3⟩;cases e;obtain⟨g4,g5⟩:=live x g3;rcases hr.inj x b l' lc g5 hc.2 g1 h1 g2 with e | ⟨_,e⟩
   ·exact g4 e
   ·omega
  ·rintro k ⟨b',o',v',r',_,_,_,_,lc,e,h1,rfl⟩;cases e;exact⟨b,lc,hro.1,hc.2,h1,rfl⟩
 ·rename_i hne;cases h;refine⟨hr,Step.refl _ _ _ _ _,λk=>?_,λk=>?_⟩<;>rintro ⟨b',o',v',r',a1,a2,a3,a4,lc,e,h1,rfl⟩<;>exact absurd e (hne _ _ _ _ _ _ _ _)
def HR.item {ρ:RM} {H:Tr Blk} {w:World} {nx b:Nat} {r:Itm} {x:Array Value} (h:HR ρ H w) (hn:ρ nx=none) (hx:ItemAt r x b w) (hb:¬Sof ρ H b):
  ∃ρ1 y H1 nx1,gE (oA r) H nx=(y,H1,nx1)/\y.length=1/\HR ρ1 H1 w/\ρ.Le ρ1/\VRs ρ1 y x.toList/\((ρ1=ρ/\H1=H/\nx1=nx)\/∃l k,ρ1=ρ.upd nx l/\H1=H.set nx k/\nx1=nx+1/\l.blk=b/\b<w.heap.size):=by
 cases r with
 | val c v=>
   obtain⟨_,u,rfl,hu⟩:=hx;exact⟨ρ,[v],H,nx,rfl,rfl,h,RM.Le.refl _,⟨u,[],rfl,hu ρ,rfl⟩,.inl ⟨rfl,rfl,rfl⟩⟩
 | row k L=>
   obtain⟨off,c,cs,elem,rfl,h1,h2,h3,h4,h5⟩:=hx;have hlt:b<w.heap.size:=(eJ.1 h1).1;have hlay:gE (oA (.row k L)) H nx=([.sl nx 0 (L.map (AV.int k)).length none 1],H.set nx (.cells (put (L.map (AV.int k)) 0 .e) (L.map (AV.int k)).length),Nat.succ nx):=by
    show gE (uD k L) H nx=_;unfold uD;rcases L with _ | ⟨a,_ | ⟨a',L⟩⟩<;>rfl
   have hlen:(L.map (AV.int k)).length=L.length:=dM ..;refine⟨ρ.upd nx ⟨b,off,off+c⟩,_,_,_,hlay,rfl,⟨λb' k' l' hg hl'=>?_,λb1 b2 l1 l2 g1 g2 e1 e2 e=>?_⟩,RM.le_upd hn,?_,.inr ⟨_,_,rfl,rfl,rfl,rfl,hlt⟩⟩
   ·rw[Tr.get_set] at hg;unfold RM.upd at hl';by_cases e:b'=nx
    ·simp only[e,bR] at hg hl';cases hg;cases hl';refine⟨cs,elem,(0,0),h1,by rw[hlen];show off+L.length<=off+c;omega,h3,λi _ _ hi=>by simp at hi,λi hi=>?_⟩;rw[hlen] at hi;have hr:L[i]?=some L[i]:=dK hi;refine⟨.int k L[i],.int k L[i],?_,h5 i _ hr,rfl⟩;rw[mP,aK (by rw[hlen];omega),nN,jH,hr];rfl
    ·simp only[e,cO] at hg hl';exact(h.blk b' k' l' hg hl').mono (RM.le_upd hn) rfl
   ·rw[Tr.get_set] at g1 g2;unfold RM.upd at e1 e2;by_cases c1:b1=nx
    ·by_cases c2:b2=nx
     ·exact .inl (c1.trans c2.symm)
     ·simp only[c1,c2,bR,cO] at g2 e1 e2;cases e1;exact absurd ⟨b2,l2,e2,e.symm,g2⟩ hb
    ·by_cases c2:b2=nx
     ·simp only[c1,c2,bR,cO] at g1 e1 e2;cases e2;exact absurd ⟨b1,l1,e1,e,g1⟩ hb
     ·simp only[c1,c2,cO] at g1 g2 e1 e2;exact h.inj b1 b2 l1 l2 g1 g2 e1 e2 e
   ·exact⟨_,[],rfl,⟨⟨b,off,off+c⟩,c,off,by simp[RM.upd],by rw[hlen],by rw[hlen];exact h2,by decide,.inl rfl,.inr ⟨rfl,by show off+0+c*1=off+c;omega,h4⟩⟩,rfl⟩
def Step.row {ρ ρi ρ1:RM} {H Hi H1:Tr Blk} {nx nxi n1 ro b:Nat} {w W:World} (h5:Step ρ H nx ro w ρi Hi nxi W) (hw:w.heap.size<=b) (hro:ro<=nx)
  (h:(ρ1=ρi/\H1=Hi/\n1=nxi)\/∃l k,ρ1=ρi.upd nxi l/\H1=Hi.set nxi k/\n1=nxi+1/\l.blk=b/\b<W.heap.size):Step ρ H nx ro w ρ1 H1 n1 W:=by
 rcases h with⟨rfl,rfl,rfl⟩ | ⟨l,k,rfl,rfl,rfl,hl,hb⟩
 ·exact h5
 have hup:=h5.up;refine⟨h5.os,h5.tape,h5.output,h5.size,by omega,λc hc=>?_,h5.keep,λc l' h1 h2 h3=>?_,λc hc=>?_,λc h1 h2=>?_⟩
 ·unfold RM.upd;rw[aD (by omega)];exact h5.ext c (by omega)
 ·unfold RM.upd at h3;by_cases e:c=nxi
  ·rw[aK e] at h3;cases h3;exact .inl ⟨by omega,by omega⟩
  ·rw[aD e] at h3;exact h5.fresh c l' h1 (by omega) h3
 ·rw[Tr.get_set] at hc;by_cases e:c=nxi
  ·exact .inl (by omega)
  ·rw[aD e] at hc;rcases h5.live c hc with h | h
   ·exact .inl (by omega)
   ·exact .inr h
 ·rw[Tr.get_set,aD (by omega)];exact h5.old c h1 h2
def j7p {ρi ρ1:RM} {Hi H1:Tr Blk} {nxi n1 b:Nat} {W:World} (h:(ρ1=ρi/\H1=Hi/\n1=nxi)\/∃l k,ρ1=ρi.upd nxi l/\H1=Hi.set nxi k/\n1=nxi+1/\l.blk=b/\b<W.heap.size):∀k,¬Sof ρi Hi k->k≠b->¬Sof ρ1 H1 k:=by
 rcases h with⟨rfl,rfl,rfl⟩ | ⟨l,k,rfl,rfl,rfl,hl,hb⟩
 ·exact λk h _=>h
 rintro q h1 h2 ⟨c,l',h3,rfl,h4⟩;rw[Tr.get_set] at h4;unfold RM.upd at h3;by_cases e:c=nxi
 ·rw[aK e] at h3;cases h3;exact h2 hl
 ·rw[aD e] at h3 h4;exact h1 ⟨c,l',h3,rfl,h4⟩
def j4j {ρi ρ1 ρr ρ2:RM} {Hi H1 Hr H2:Tr Blk} {n1 nr n2 ro b B:Nat} {W W1 W2 W3:World} (key:∀k,¬Sof ρi Hi k->k≠b->¬Sof ρ1 H1 k)
  (s1:Step ρ1 H1 n1 ro W ρr Hr nr W1) (g:Gr B W1 W2) (s2:Step ρr Hr nr ro W2 ρ2 H2 n2 W3):Off (Sof ρi Hi) b W (Sof ρ2 H2) W3:=by
 have z1:=s1.size;have z2:=g.size;refine⟨eA z1 (eA z2 s2.size),λq hq h1 h2 h3=>key q h1 h2 (s1.sof hq (s2.sof (by omega) h3)),λq o ho h1 h2 h3=>?_,s2.os.trans (g.os.trans s1.os),s2.tape.trans (g.tape.trans s1.tape),s2.output.trans (g.output.trans s1.output)⟩;have hq:=(eJ.1 ho).1;have a1:W1.heap[q]?=some o:=(s1.keep q hq λc l' h4 h5 h6=>absurd ⟨c,l',h4,h5,h6⟩ (key q h1 h2)).trans ho;have a2:=g.same q o a1 (.inr h3);exact(s2.keep q (by omega) λc l' h4 h5 h6=>absurd (s1.sof hq ⟨c,l',h4,h5,h6⟩) (key q h1 h2)).trans a2
def rP (P:Program) (gl:List Nat) (nt ro:Nat) (r:Option Nat) (n:Nat) (code:Code) (f:St->Option (Ex×St)):Prop:=
 ∀(tm:Tr AV) (H:Tr Blk) (nx:Nat) (e:Ex) (tm':Tr AV) (H':Tr Blk) (nx':Nat),f (tm,H,nx)=some (e,tm',H',nx')->ro<=nx->
  ∀(ρ:RM) (a:Act) (w:World) (Q:Exit->Act->World->Prop),TR ρ nt tm a->GLok gl ρ->HR ρ H w->Free ρ nx nx'->WF H nx->
   (∀ρ' a' w',LeftM gl nt ρ H nx ro w a tm' H' nx' a' w' ρ'->Q e.to a' w')->code.wpIn (Fr r) n P Q a w
def jo2 {r:Option Nat} {nn:Nat} {code:Code} {f:St->Option (Ex×St)} (hsy:∀tm H nx e tm' H' nx',f (tm,H,nx)=some (e,tm',H',nx')->Syn H nx ro H' nx') (hf:rP P gl nt ro r nn code f):
  ∀(n:Nat) (tm:Tr AV) (H:Tr Blk) (nx:Nat) (e:Ex) (tm':Tr AV) (H':Tr Blk) (nx':Nat),iter f n (tm,H,nx)=some (e,tm',H',nx')->ro<=nx->
   ∀(ρ:RM) (a:Act) (w:World) (Q:Exit->Act->World->Prop),TR ρ nt tm a->GLok gl ρ->HR ρ H w->Free ρ nx nx'->WF H nx->
    (∀ρ' a' w',LeftM gl nt ρ H nx ro w a tm' H' nx' a' w' ρ'->Q e.to a' w')->Code.roundsIn (Fr r) nn P code Q n a w
 | 0,_,_,_,_,_,_,_,h,_,_,_,_,_,_,_,_,_,_,_=>by cases h
 | n+1,tm,H,nx,e,tm',H',nx',h,hro,ρ,a,w,Q,ht,hgl,hr,hfr,hwf,hQ=>by
   rw[roundsIn_succ];unfold iter at h;split at h
   ·rename_i s1 h1;obtain⟨tm1,H1,nx1⟩:=s1;have s:=hsy _ _ _ _ _ _ _ h1;have s2:=jaq hsy n _ _ _ _ _ _ _ h;refine hf _ _ _ _ _ _ _ h1 hro ρ a w _ ht hgl hr (hfr.left s2.up) hwf λρ1 a1 w1 L=>?_
    refine jo2 hsy hf n _ _ _ _ _ _ _ h (eA hro s.up) ρ1 a1 w1 Q L.tr L.gl L.hr (L.step.free hfr) (s.wf hwf) λρ2 a2 w2 L2=>hQ _ _ _ (L.trans L2)
   ·rename_i r hr';refine hf _ _ _ _ _ _ _ h hro ρ a w _ ht hgl hr hfr hwf λρ1 a1 w1 L=>?_
    cases e with
    | normal=>exact absurd h (hr' _)
    | exit id=>exact hQ _ _ _ L
    | ret=>exact hQ _ _ _ L
def jct {ρ:RM} {nt:Nat}:∀ {ps:List Nat} {y:List AV} {z:List Value} {tm:Tr AV} {t:Array Value},y.length=ps.length->(∀p∈ps,p<nt)->VRs ρ y z->TR ρ nt tm { tmps:=t,defers:=[] }->
  z.length=ps.length/\TR ρ nt (Az ps y tm) { tmps:=(ps.zip z).foldl (λt (p,v)=>t.setIfInBounds p v) t,defers:=[] }
 | [],[],z,tm,t,_,_,h,ht=>by simp only[VRs] at h;subst h;exact⟨rfl,ht⟩
 | p::ps,a::y,z,tm,t,hl,hp,h,ht=>by
   obtain⟨v,z',rfl,h1,h2⟩:=h;have t1:TR ρ nt (tm.set p a) { tmps:=t.setIfInBounds p v,defers:=[] }:=ht.put (d:=some p) (by simpa[Ju] using hp p (by simp)) h1;obtain⟨k1,k2⟩:=jct (by simpa using hl) (λq hq=>hp q (by simp[hq])) h2 t1;exact⟨by simp[k1],k2⟩
 | [],_::_,_,_,_,hl,_,_,_=>by simp at hl
 | _::_,[],_,_,_,hl,_,_,_=>by simp at hl
def vA {its:nV} (hits:wL P gl its) (hcall:lS P gl call) (hsyn:iY call) (hm:P.follows .mixedOrders=true):∀(code:Code) (c:CC),cc P gl its nt code=some c->∀(r:Option Nat) (n:Nat),(r=none\/Fb c=true)->rP P gl nt ro r n code (exec call ro c)
 | .skip,c,hc=>by
   simp only[cc,aG] at hc;subst hc;intro rr nn hrf tm H nx e tm' H' nx' h hro ρ a w Q ht hgl hr hf hwf hQ;simp only[exec,aG,aM] at h;obtain⟨rfl,rfl,rfl,rfl⟩:=h;exact wpIn_skip (hQ _ _ _ (LeftM.refl ht hgl hr))
 | .label l,c,hc=>by
   simp only[cc,aG] at hc;subst hc;intro rr nn hrf tm H nx e tm' H' nx' h hro ρ a w Q ht hgl hr hf hwf hQ;simp only[exec,aG,aM] at h;obtain⟨rfl,rfl,rfl,rfl⟩:=h;exact wpIn_label (hQ _ _ _ (LeftM.refl ht hgl hr))
 | .scope x,c,hc=>by
   simp only[cc] at hc;split at hc<;>try (cases hc;done)
   rename_i c1 h1;simp only[aG] at hc;subst hc;have k1:=vA hits hcall hsyn hm x c1 h1;intro rr nn hrf tm H nx e tm' H' nx' h hro ρ a w Q ht hgl hr hf hwf hQ;refine j7b (k1 rr nn hrf _ _ _ _ _ _ _ h hro ρ a w _ ht hgl hr hf hwf λρ1 a1 w1 L=>?_);have:=hQ _ _ _ L;cases e<;>exact this
 | .exit id,c,hc=>by
   simp only[cc,aG] at hc;subst hc;intro rr nn hrf tm H nx e tm' H' nx' h hro ρ a w Q ht hgl hr hf hwf hQ;simp only[exec,aG,aM] at h;obtain⟨rfl,rfl,rfl,rfl⟩:=h;exact wpIn_exit (hQ _ _ _ (LeftM.refl ht hgl hr))
 | .ret,c,hc=>by
   simp only[cc,aG] at hc;subst hc;intro rr nn hrf tm H nx e tm' H' nx' h hro ρ a w Q ht hgl hr hf hwf hQ;simp only[exec,aG,aM] at h;obtain⟨rfl,rfl,rfl,rfl⟩:=h;exact wpIn_ret (hQ _ _ _ (LeftM.refl ht hgl hr))
 | .region id ops d,c,hc=>by
   intro rr nn hrf tm H nx e tm' H' nx' h hro ρ a w Q ht hgl hr hf hwf hQ;simp only[cc] at hc;by_cases hcalm:Pw ops=true
   case neg=>rw[aK (by simpa using hcalm)] at hc;cases hc
   rw[aD (by simpa using hcalm)] at hc;split at hc
   ·rename_i cs hcs;have go:∀l,c=.region l->jR call ro l (tm,H,nx)=some (tm',H',nx')/\e=.normal:=by
     rintro l rfl;simp only[exec] at h;split at h
     ·rename_i s1 h1;simp only[aG,aM] at h;obtain⟨rfl,rfl⟩:=h;exact⟨h1,rfl⟩
     ·cases h
    have nl:¬LetsOut (fun(x:Exit) (a':Act) (w':World)=>x=.normal/\∃ρ',Left gl nt ρ H nx ro w a tm' H' nx' a' w' ρ'):=by
     rintro ⟨_,_,h,_⟩;cases h
    have fin:∀(x:Exit) (a':Act) (w':World),e=.normal->(x=.normal/\∃ρ',Left gl nt ρ H nx ro w a tm' H' nx' a' w' ρ')->Q x a' w':=by
     rintro x a' w' rfl ⟨rfl,ρ',L⟩;exact hQ _ _ _ L.m
    cases d with
    | false=>
      simp only[fX,cO,aG] at hc;obtain⟨h1,he⟩:=go cs hc.symm;refine wpIn_mono (wpIn_region_list (Kk nl _ hcalm _ _ (Sp hcall hsyn _ _ hcs ρ tm H nx tm' H' nx' a w h1 ht hgl hr hf hro hwf λρ' a' w' L=>⟨rfl,ρ',L⟩))) λx a' w'=>fin x a' w' he
    | true=>
      simp only[bR] at hc;split at hc
      ·simp only[cX] at hc;obtain⟨ms,hd,rfl⟩:=hc;obtain⟨h1,he⟩:=go ms rfl;exact wpIn_mono (wpIn_region_any hm (Im nl hcalm _ _ _ _ (jx6 hcall hsyn hm hcs hd h1 ht hgl hr hf hro hwf λρ' a' w' L=>⟨rfl,ρ',L⟩))) λx a' w'=>fin x a' w' he
      ·rename_i i π _;by_cases hπ:La (i::π) ops=true
       ·rw[aK hπ] at hc;split at hc
        ·rename_i cs' hcs';simp only[cX] at hc;obtain⟨ms,hd,rfl⟩:=hc;obtain⟨h1,he⟩:=go ms rfl;exact wpIn_mono (wpIn_region_any hm (Im nl hcalm _ _ _ _ (jx5 hcall hsyn hm hπ hcs' hd h1 ht hgl hr hf hro hwf λρ' a' w' L=>⟨rfl,ρ',L⟩))) λx a' w'=>fin x a' w' he
        ·cases hc
       ·rw[aD hπ] at hc;cases hc
   ·cases hc
 | .seq x y,c,hc=>by
   simp only[cc] at hc;split at hc
   ·rename_i c1 c2 h1 h2;cases hc;have k1:=vA hits hcall hsyn hm x c1 h1;have k2:=vA hits hcall hsyn hm y c2 h2;intro rr nn hrf tm H nx e tm' H' nx' h hro ρ a w Q ht hgl hr hf hwf hQ;simp only[exec] at h;refine wpIn_seq ?_;split at h
    ·rename_i s1 h1;obtain⟨tm1,H1,nx1⟩:=s1;have s:=lV (ro:=ro) hsyn c1 _ _ _ _ _ _ _ h1;have s2:=lV (ro:=ro) hsyn c2 _ _ _ _ _ _ _ h;refine k1 rr nn (hrf.imp (λh=>h) λh=>(kO h).1) _ _ _ _ _ _ _ h1 hro ρ a w _ ht hgl hr (hf.left s2.up) hwf λρ1 a1 w1 L=>?_
     exact k2 rr nn (hrf.imp (λh=>h) λh=>(kO h).2) _ _ _ _ _ _ _ h (eA hro s.up) ρ1 a1 w1 Q L.tr L.gl L.hr (L.step.free hf) (s.wf hwf) λρ2 a2 w2 L2=>hQ _ _ _ (L.trans L2)
    ·rename_i r hr';refine k1 rr nn (hrf.imp (λh=>h) λh=>(kO h).1) _ _ _ _ _ _ _ h hro ρ a w _ ht hgl hr hf hwf λρ1 a1 w1 L=>?_
     cases e with
     | normal=>exact absurd h (hr' _)
     | exit id=>exact hQ _ _ _ L
     | ret=>exact hQ _ _ _ L
   ·cases hc
 | .cond c0 x y,c,hc=>by
   simp only[cc] at hc;split at hc
   ·rename_i cx c1 c2 h0 h1 h2;cases hc;have k1:=vA hits hcall hsyn hm x c1 h1;have k2:=vA hits hcall hsyn hm y c2 h2;intro rr nn hrf tm H nx e tm' H' nx' h hro ρ a w Q ht hgl hr hf hwf hQ;simp only[exec] at h;have hv:=So ht hgl c0 cx h0;split at h
    ·rename_i hq;rw[hq] at hv;simp only[VR] at hv;exact wpIn_cond_true hv (k1 rr nn (hrf.imp (λh=>h) λh=>(kO h).1) _ _ _ _ _ _ _ h hro ρ a w Q ht hgl hr hf hwf hQ)
    ·rename_i hq;rw[hq] at hv;simp only[VR] at hv;exact wpIn_cond_false hv (k2 rr nn (hrf.imp (λh=>h) λh=>(kO h).2) _ _ _ _ _ _ _ h hro ρ a w Q ht hgl hr hf hwf hQ)
    ·cases h
   ·cases hc
 | .block id b,c,hc=>by
   simp only[cc,cX] at hc;obtain⟨c1,h1,rfl⟩:=hc;have k1:=vA hits hcall hsyn hm b c1 h1;intro rr nn hrf tm H nx e tm' H' nx' h hro ρ a w Q ht hgl hr hf hwf hQ;simp only[exec] at h;refine wpIn_block ?_;split at h
   ·rename_i i s1 h2;obtain⟨tm1,H1,nx1⟩:=s1;rcases mR h with⟨hi,h⟩ | ⟨hi,h⟩<;>simp only[aG,aM] at h<;>obtain⟨rfl,rfl,rfl,rfl⟩:=h
    ·refine k1 rr nn (hrf.imp (λh=>h) λh=>h) _ _ _ _ _ _ _ h2 hro ρ a w _ ht hgl hr hf hwf λρ1 a1 w1 L=>?_
     have:i=id:=by simpa[aL] using hi
     simp only[Ex.to,Exit.inBlock,this,bR];exact hQ _ _ _ L
    ·refine k1 rr nn (hrf.imp (λh=>h) λh=>h) _ _ _ _ _ _ _ h2 hro ρ a w _ ht hgl hr hf hwf λρ1 a1 w1 L=>?_
     have:i≠id:=by simpa[aL] using hi
     simp only[Ex.to,Exit.inBlock,this,cO];exact hQ _ _ _ L
   ·rename_i r hr';refine k1 rr nn (hrf.imp (λh=>h) λh=>h) _ _ _ _ _ _ _ h hro ρ a w _ ht hgl hr hf hwf λρ1 a1 w1 L=>?_
    cases e with
    | normal=>exact hQ _ _ _ L
    | exit id=>exact absurd h (hr' _ _)
    | ret=>exact hQ _ _ _ L
 | .loop b,c,hc=>by
   simp only[cc,cX] at hc;obtain⟨c1,h1,rfl⟩:=hc;have k1:=vA hits hcall hsyn hm b c1 h1;intro rr nn hrf tm H nx e tm' H' nx' h hro ρ a w Q ht hgl hr hf hwf hQ;simp only[exec] at h;exact wpIn_loop_rounds fuel (jo2 (λtm H nx e tm' H' nx'=>lV hsyn c1 tm H nx e tm' H' nx') (k1 rr nn (hrf.imp (λh=>h) λh=>h)) fuel _ _ _ _ _ _ _ h hro ρ a w Q ht hgl hr hf hwf hQ)
 | .goto _,c,hc=>by
   simp only[cc,aG] at hc;subst hc;intro rr nn hrf tm H nx e tm' H' nx' h;cases h
 | .refuse _,c,hc=>by
   simp only[cc,aG] at hc;subst hc;intro rr nn hrf tm H nx e tm' H' nx' h;cases h
 | .rangeFunc g ps (.region id ops false) b,c,hc=>by
   simp only[cc] at hc;split at hc
   ·cases hc;intro rr nn hrf tm H nx e tm' H' nx' h;cases h
   ·rename_i p0 its';split at hc<;>try (cases hc;done)
    rename_i x as cb hx has hcb;by_cases hok:(Fb cb&&Pw ops&&ps.toList.all (λp=>p.blt nt))=true
    case neg=>rw[aD hok] at hc;cases hc
    rw[aK hok] at hc;cases hc;simp only[aN] at hok;obtain⟨⟨hnr,hcalm⟩,hps⟩:=hok;have k1:=vA hits hcall hsyn hm b cb hcb;intro rr nn hrf tm H nx e tm' H' nx' h hro ρ a w Q ht hgl hr hf hwf hQ;have hrr:rr=none:=by
     rcases hrf with h | h
     ·exact h
     ·cases h
    subst hrr;obtain⟨rfl,f,free,it,ys,H0,hv,hit,hys,hyl0,hst0,F,hrng,hF⟩:=jod h;have hvg:=So ht hgl g x hx;rw[hv] at hvg;simp only[VR] at hvg;obtain⟨xs,lb,hev,hxs,hlb⟩:=hvg;simp only[VRs] at hxs;have hxs0:xs=#[]:=gF.1 hxs;subst hxs0;rcases hits f it hit with hits0 | hits1
    ·obtain⟨⟨fn,hfn,hname,hbody⟩,zs,hzl,hzr,Rdy,hRdy,hspec⟩:=hits0 free H ys hys ρ w lb hr hgl hlb;obtain⟨e1,e2⟩:=j70 hzl hzr ro H;rw[e1] at hst0;cases hst0;simp only[e2,fX,gU] at hrng;have hpb:∀p∈ps.toList,p<nt:=λp hp=>by
      have:=bS.1 hps p hp;have h2:(p+1).ble nt=true:=this;rw[aP,aH] at h2;exact h2
     have hsynF:∀y H nx e H' nx',F y H nx=some (e,H',nx')->Syn H nx ro H' nx':=λy H nx e H' nx' h=>by
      obtain⟨s1,tm2,h1,h2⟩:=hF _ _ _ _ _ _ h;obtain⟨tm1,H1,nx1⟩:=s1;exact(Rp y H nx ro).trans ((uE hsyn as _ _ _ _ _ _ h1).trans (lV hsyn cb _ _ _ _ _ _ _ h2))
     have hle0:∀ {ρi:RM} {Hi:Tr Blk} {nxi:Nat} {W:World},nxi<=nx'->Step ρ H nx ro w ρi Hi nxi W->ρ.Le ρi:=λhn hs=>hs.le (hf.left hn)
     have pick:∀(i:Nat) (z:Array Value),zs[i]?=some z->∃y,ys.1[i]?=some y/\VRs ρ y z.toList/\y.length=ps.size:=λi z hz=>by
      have hlt:i<ys.1.length:=by rw[<-hzl];exact(jG.1 hz).1
      have hy:ys.1[i]?=some ys.1[i]:=dK hlt;exact⟨_,hy,hzr i _ z hy hz,by have:=hyl0 ys.1[i] (dU hlt);simpa using this⟩
     refine j5h hev (λargs w=>Ut hfn hname hbody args w) (zs:=zs) (λz hz=>?_) hspec
      (λi W=>∃Hi nxi ρi,kI (λH=>it free H=some ys) F (ys.1.drop i) Hi nxi=some (e,H',nx')/\it free Hi=some ys/\HR ρi Hi W/\GLok gl ρi/\Step ρ H nx ro w ρi Hi nxi W/\Syn H nx ro Hi nxi)
      (λe0 W=>e0=e/\∃ρ',HR ρ' H' W/\GLok gl ρ'/\Step ρ H nx ro w ρ' H' nx' W)
      ?_ ?_ ?_ ?_ ?_ ?_ ?_
     ·obtain⟨i,hi⟩:=List.mem_iff_getElem?.1 hz;obtain⟨y,_,h1,h2⟩:=pick i z hi;rw[<-h2,h1.length];simp
     ·rintro i W W' ⟨Hi,nxi,ρi,h1,h2,h3,h4,h5,h6⟩ hg;exact⟨Hi,nxi,ρi,h1,h2,h3.gr hg,h4,h5.gr hg,h6⟩
     ·rintro e0 W W' ⟨h0,ρ',h3,h4,h5⟩ hg;exact⟨h0,ρ',h3.gr hg,h4,h5.gr hg⟩
     ·rintro i W ⟨Hi,nxi,ρi,h1,h2,h3,h4,h5,h6⟩;exact hRdy ρi Hi W (hle0 (yQ hsynF _ _ _ _ _ _ h1).up h5) h2 h3
     ·exact⟨H,nx,ρ,by rw[fZ];exact hrng,hys,hr,hgl,Step.refl _ _ _ _ _,Syn.refl _ _ _⟩
     ·rintro l i z W hz ⟨Hi,nxi,ρi,h1,h2,h3,h4,h5,h6⟩;obtain⟨y,hy,hyz,hyl⟩:=pick i z hz;have hlt:i<ys.1.length:=(jG.1 hy).1;have hdrop:ys.1.drop i=y::ys.1.drop (i+1):=by
       rw[mB hlt]
       congr 1
       rw[dK hlt] at hy;exact kF hy
      rw[hdrop] at h1;have hup:=(yQ hsynF _ _ _ _ _ _ (by rw[hdrop];exact h1:kI (λH=>it free H=some ys) F (ys.1.drop i) Hi nxi=some (e,H',nx'))).up;have hlei:=hle0 hup h5;have hround:∃e1 H2 nx2,F y Hi nxi=some (e1,H2,nx2)/\((e1=.normal/\it free H2=some ys/\kI (λH=>it free H=some ys) F (ys.1.drop (i+1)) H2 nx2=some (e,H',nx'))\/(e1≠ .normal/\e1=e/\H2=H'/\nx2=nx')):=by
       unfold kI at h1;split at h1
       ·rename_i H2 nx2 hq;by_cases hit2:it free H2=some ys
        ·rw[aK hit2] at h1;exact⟨_,_,_,hq,.inl ⟨rfl,hit2,h1⟩⟩
        ·rw[aD hit2] at h1;cases h1
       ·rename_i q hq;refine⟨e,H',nx',h1,.inr ⟨λhe=>?_,rfl,rfl,rfl⟩⟩;subst he;exact hq _ _ h1
      obtain⟨e1,H2,nx2,hFy,hend⟩:=hround;obtain⟨s1,tm2,hr1,hr2⟩:=hF _ _ _ _ _ _ hFy;rw[j0l hyz] at hr1;obtain⟨tm1,H1,nx1⟩:=s1;have sy1:=uE (ro:=ro) hsyn as _ _ _ _ _ _ hr1;have sy2:=lV (ro:=ro) hsyn cb _ _ _ _ _ _ _ hr2;have hnx2:nx2<=nx':=by
       rcases hend with⟨_,_,h⟩ | ⟨_,_,_,h⟩
       ·exact(yQ hsynF _ _ _ _ _ _ h).up
       ·omega
      have hfi:Free ρi nxi nx':=h5.free hf;have hroi:ro<=nxi:=eA hro h6.up;obtain⟨kz,ht1⟩:=jct (z:=z.toList) (tm:=tm') (t:=a.tmps) (by simpa using hyl) hpb (VRs.mono hlei _ _ hyz) ⟨ht.size,λn=>VR.mono hlei _ _ (ht.val n)⟩;have nl:¬LetsOut (fun(x:Exit) (a':Act) (w':World)=>x=.normal/\∃ρ',Left gl nt ρi Hi nxi ro W { tmps:=(ps.toList.zip z.toList).foldl (λt (p,v)=>t.setIfInBounds p v) a.tmps,defers:=[] } tm1 H1 nx1 a' w' ρ'):=by
       rintro ⟨_,_,h,_⟩;cases h
      have hrun:=Sp hcall hsyn (Q:=fun(x:Exit) (a':Act) (w':World)=>x=.normal/\∃ρ',Left gl nt ρi Hi nxi ro W { tmps:=(ps.toList.zip z.toList).foldl (λt (p,v)=>t.setIfInBounds p v) a.tmps,defers:=[] } tm1 H1 nx1 a' w' ρ')
       _ _ has ρi _ Hi nxi tm1 H1 nx1 _ W hr1 ht1 h4 h3 (hfi.left (by have:=sy2.up;omega)) hroi (h6.wf hwf) λρ' a' w' L=>⟨rfl,ρ',L⟩
      have ezip:(ps.zip z).foldl (λt (p,v)=>t.setIfInBounds p v) a.tmps=(ps.toList.zip z.toList).foldl (λt (p,v)=>t.setIfInBounds p v) a.tmps:=by
       rw[<-qgb,Array.toList_zip]
      rw[ezip];refine wpIn_mono (wpIn_region_list (Kk nl _ hcalm _ _ hrun)) ?_;rintro x a1 W1 ⟨rfl,ρ1,L⟩;refine⟨L.step.keeps h3,λW2 hg2=>?_⟩;have hs1:Step ρ H nx ro w ρ1 H1 nx1 W2:=(h5.trans L.step).gr hg2;refine k1 (some l) 2 (.inr hnr) _ _ _ _ _ _ _ hr2 (eA hroi sy1.up) ρ1 a1 W2 _ L.tr L.gl (L.hr.gr hg2) ((L.step.free hfi).left hnx2) (sy1.wf (h6.wf hwf)) λρ2 a2 W3 L2=>?_
      have hk:=L2.step.keeps (L.hr.gr hg2);have hst:=hs1.trans L2.step;rcases hend with⟨rfl,hit2,hrest⟩ | ⟨hne,rfl,rfl,rfl⟩
      ·exact⟨hk,H2,nx2,ρ2,hrest,hit2,L2.hr,L2.gl,hst,(h6.trans sy1).trans sy2⟩
      ·cases e1 with
       | normal=>exact absurd rfl hne
       | exit id=>exact⟨hk,rfl,ρ2,L2.hr,L2.gl,hst⟩
       | ret=>exact⟨hk,rfl,ρ2,L2.hr,L2.gl,hst⟩
     ·rintro D W hD ⟨Hi,nxi,ρi,h1,h2,h3,h4,h5,h6⟩ hDm;rw[hzl,sT] at h1;simp only[kI,aG,aM] at h1;obtain⟨rfl,rfl,rfl⟩:=h1;exact hQ ρi { a with defers:={ target:=.collected D,args:=#[] }::a.defers } W ⟨h5,h3,⟨ht.size,λn=>VR.mono (hle0 (aU _) h5) _ _ (ht.val n)⟩,h4,[{ target:=.collected D,args:=#[] }],rfl,λd hd=>⟨D,bF.1 hd,hD,hDm⟩,Fu _ _⟩
     ·rintro D e0 W hD hne ⟨rfl,ρ',h3,h4,h5⟩ hDm;exact hQ ρ' { a with defers:={ target:=.collected D,args:=#[] }::a.defers } W ⟨h5,h3,⟨ht.size,λn=>VR.mono (hle0 (aU _) h5) _ _ (ht.val n)⟩,h4,[{ target:=.collected D,args:=#[] }],rfl,λd hd=>⟨D,bF.1 hd,hD,hDm⟩,Fu _ _⟩
    ·obtain⟨⟨fn,hfn,hname,hbody⟩,rows,hrows,Rdy,hRdy,hspec⟩:=hits1 free H ys hys ρ w lb hr hgl hlb;obtain⟨hr0,hs0,hb0,hb1⟩:=j7z (nx:=nx) hst0 hr;have hy0:=jp8 nx hst0;have hpb:∀p∈ps.toList,p<nt:=λp hp=>by
      have:=bS.1 hps p hp;have h2:(p+1).ble nt=true:=this;rw[aP,aH] at h2;exact h2
     have hsynF:∀y H nx e H' nx',F y H nx=some (e,H',nx')->Syn H nx ro H' nx':=λy H nx e H' nx' h=>by
      obtain⟨s1,tm2,h1,h2⟩:=hF _ _ _ _ _ _ h;obtain⟨tm1,H1,nx1⟩:=s1;exact(Rp y H nx ro).trans ((uE hsyn as _ _ _ _ _ _ h1).trans (lV hsyn cb _ _ _ _ _ _ _ h2))
     have hle0:∀ {ρi:RM} {Hi:Tr Blk} {nxi:Nat} {W:World},nxi<=nx'->Step ρ H nx ro w ρi Hi nxi W->ρ.Le ρi:=λhn hs=>hs.le (hf.left hn)
     have hlen:ys.1.length=rows.length:=by rw[hrows,dM]
     refine j5g hev (λargs w=>Ut hfn hname hbody args w) (rows:=rows) (λz hz=>?_) (λk hk=>?_) hspec
      (λi S W=>∃Hi nxi ρi,S=Sof ρi Hi/\kI (λH=>it free H=some ys\/boxed ys.1=true) F (ys.1.drop i) Hi nxi=some (e,H',nx')/\(it free Hi=some ys\/boxed ys.1=true)/\HR ρi Hi W/\GLok gl ρi/\Step ρ H nx ro w ρi Hi nxi W/\Syn H nx ro Hi nxi/\∀k,zV ρ ys.1 k->¬Sof ρi Hi k)
      (λe0 W=>e0=e/\∃ρ',HR ρ' H' W/\GLok gl ρ'/\Step ρ H nx ro w ρ' H' nx' W/\∀k,zV ρ ys.1 k->¬Sof ρ' H' k)
      ?_ ?_ ?_ ?_ ?_ ?_ (Sof ρ H0) ?_ ?_ ?_ ?_
     ·have:=hyl0 (oA z) (by rw[hrows];exact List.mem_map_of_mem hz);have h1:(oA z).length=1:=by cases z<;>rfl
      rw[h1] at this;simpa using this.symm
     ·obtain⟨b,l,_,h2,h3,rfl⟩:=hb1 k hk;exact Sof.lt hr ⟨b,l,h3,rfl,h2⟩
     ·rintro i S W W' ⟨Hi,nxi,ρi,h0,h1,h2,h3,h4,h5,h6,h7⟩ hg;exact⟨Hi,nxi,ρi,h0,h1,h2,h3.gr hg,h4,h5.gr hg,h6,h7⟩
     ·rintro e0 W W' ⟨h0,ρ',h3,h4,h5,h7⟩ hg;exact⟨h0,ρ',h3.gr hg,h4,h5.gr hg,h7⟩
     ·rintro i S W W' ⟨Hi,nxi,ρi,h0,h1,h2,h3,h4,h5,h6,h7⟩ hg;exact⟨Hi,nxi,ρi,h0,h1,h2,h3.own h7 hg,h4,h5.own hb1 hg,h6,h7⟩
     ·rintro e0 W W' ⟨h0,ρ',h3,h4,h5,h7⟩ hg;exact⟨h0,ρ',h3.own h7 hg,h4,h5.own hb1 hg,h7⟩
     ·rintro i S W k ⟨Hi,nxi,ρi,rfl,h1,h2,h3,h4,h5,h6,h7⟩ hk;exact⟨hk.lt h3,λhb=>h7 k hb hk⟩
     ·rintro i S W ⟨Hi,nxi,ρi,rfl,h1,h2,h3,h4,h5,h6,h7⟩;exact hRdy ρi Hi W (hle0 (yQ hsynF _ _ _ _ _ _ h1).up h5) h2 h3
     ·refine⟨H0,nx,ρ,rfl,by rw[fZ];exact hrng,?_,hr0,hgl,hs0,hy0,hb0⟩;cases hbb:boxed ys.1 with
      | true=>exact .inr rfl
      | false=>
        have:H0=H:=by
         unfold nR at hst0;split at hst0
         ·rename_i e;rw[e] at hbb;cases hbb
         ·cases hst0;rfl
        rw[this];exact .inl hys
     ·rintro l i S row z bb W hz ⟨Hi,nxi,ρi,rfl,h1,h2,h3,h4,h5,h6,h7⟩ hrow hbw hnS;have hy:ys.1[i]?=some (oA row):=by rw[hrows,jH,hz];rfl
      have hlt:i<ys.1.length:=(jG.1 hy).1;have hdrop:ys.1.drop i=oA row::ys.1.drop (i+1):=by
       rw[mB hlt]
       congr 1
       rw[dK hlt] at hy;exact kF hy
      rw[hdrop] at h1;have hup:=(yQ hsynF _ _ _ _ _ _ (by rw[hdrop];exact h1:kI (λH=>it free H=some ys\/boxed ys.1=true) F (ys.1.drop i) Hi nxi=some (e,H',nx'))).up;have hlei:=hle0 hup h5;have hround:∃e1 H2 nx2,F (oA row) Hi nxi=some (e1,H2,nx2)/\((e1=.normal/\(it free H2=some ys\/boxed ys.1=true)/\kI (λH=>it free H=some ys\/boxed ys.1=true) F (ys.1.drop (i+1)) H2 nx2=some (e,H',nx'))\/(e1≠ .normal/\e1=e/\H2=H'/\nx2=nx')):=by
       unfold kI at h1;split at h1
       ·rename_i H2 nx2 hq;by_cases hit2:it free H2=some ys\/boxed ys.1=true
        ·rw[aK hit2] at h1;exact⟨_,_,_,hq,.inl ⟨rfl,hit2,h1⟩⟩
        ·rw[aD hit2] at h1;cases h1
       ·rename_i q hq;refine⟨e,H',nx',h1,.inr ⟨λhe=>?_,rfl,rfl,rfl⟩⟩;subst he;exact hq _ _ h1
      obtain⟨e1,H2,nx2,hFy,hend⟩:=hround;obtain⟨s1,tm2,hr1,hr2⟩:=hF _ _ _ _ _ _ hFy;have sy1':=uE (ro:=ro) hsyn as _ _ _ _ _ _ hr1;obtain⟨tm1,H1,nx1⟩:=s1;have sy1:=uE (ro:=ro) hsyn as _ _ _ _ _ _ hr1;have sy2:=lV (ro:=ro) hsyn cb _ _ _ _ _ _ _ hr2;have hnx2:nx2<=nx':=by
       rcases hend with⟨_,_,h⟩ | ⟨_,_,_,h⟩
       ·exact(yQ hsynF _ _ _ _ _ _ h).up
       ·omega
      have hfi0:Free ρi nxi nx':=h5.free hf;have hnone:ρi nxi=none\/∃c v,row=.val c v:=by
       cases row with
       | val c v=>exact .inr ⟨c,v,rfl⟩
       | row k L=>
         have e:(gE (oA (.row k L)) Hi nxi).2.2=nxi+1:=by
          show(gE (uD k L) Hi nxi).2.2=_;unfold uD;rcases L with _ | ⟨a,_ | ⟨a',L⟩⟩<;>rfl
         have h8:(gE (oA (.row k L)) Hi nxi).2.2<=nx1:=sy1'.up;rw[e] at h8;have h9:nx1<=nx2:=sy2.up;exact .inl (hfi0 nxi (aU _) (by omega))
      obtain⟨ρ1,y1,Hi1,n1,hlay,hy1l,hr1',hle1,hvz,hcase⟩:∃ρ1 y1 Hi1 n1,gE (oA row) Hi nxi=(y1,Hi1,n1)/\y1.length=1/\HR ρ1 Hi1 W/\ρi.Le ρ1/\VRs ρ1 y1 z.toList/\((ρ1=ρi/\Hi1=Hi/\n1=nxi)\/∃l k,ρ1=ρi.upd nxi l/\Hi1=Hi.set nxi k/\n1=nxi+1/\l.blk=bb/\bb<W.heap.size):=by
       rcases hnone with hn0 | ⟨c,v,rfl⟩
       ·exact h3.item hn0 hrow hnS
       ·obtain⟨_,u,rfl,hu⟩:=hrow;exact⟨ρi,[v],Hi,nxi,rfl,rfl,h3,RM.Le.refl _,⟨u,[],rfl,hu ρi,rfl⟩,.inl ⟨rfl,rfl,rfl⟩⟩
      have h5r:=h5.row hbw hro hcase;have h6r:Syn H nx ro Hi1 n1:=h6.trans (by have:=Rp (oA row) Hi nxi ro;rw[hlay] at this;exact this);rw[hlay] at hr1 sy1;have hfi:Free ρ1 n1 nx':=h5r.free hf;have hroi:ro<=n1:=eA hro h6r.up;have hps1:y1.length=ps.toList.length:=by
       have:=hyl0 (oA row) (by rw[hrows];exact List.mem_map_of_mem (rC hz));have h8:(oA row).length=1:=by cases row<;>rfl
       rw[h8] at this;rw[hy1l];simpa using this
      obtain⟨kz,ht1⟩:=jct (z:=z.toList) (tm:=tm') (t:=a.tmps) hps1 hpb hvz ⟨ht.size,λn=>VR.mono (hlei.trans hle1) _ _ (ht.val n)⟩;have nl:¬LetsOut (fun(x:Exit) (a':Act) (w':World)=>x=.normal/\∃ρ',Left gl nt ρ1 Hi1 n1 ro W { tmps:=(ps.toList.zip z.toList).foldl (λt (p,v)=>t.setIfInBounds p v) a.tmps,defers:=[] } tm1 H1 nx1 a' w' ρ'):=by
       rintro ⟨_,_,h,_⟩;cases h
      have hrun:=Sp hcall hsyn (Q:=fun(x:Exit) (a':Act) (w':World)=>x=.normal/\∃ρ',Left gl nt ρ1 Hi1 n1 ro W { tmps:=(ps.toList.zip z.toList).foldl (λt (p,v)=>t.setIfInBounds p v) a.tmps,defers:=[] } tm1 H1 nx1 a' w' ρ')
       _ _ has ρ1 _ Hi1 n1 tm1 H1 nx1 _ W hr1 ht1 (h4.mono hle1) hr1' (hfi.left (by have:=sy2.up;omega)) hroi (h6r.wf hwf) λρ' a' w' L=>⟨rfl,ρ',L⟩
      have ezip:(ps.zip z).foldl (λt (p,v)=>t.setIfInBounds p v) a.tmps=(ps.toList.zip z.toList).foldl (λt (p,v)=>t.setIfInBounds p v) a.tmps:=by
       rw[<-qgb,Array.toList_zip]
      rw[ezip];refine wpIn_mono (wpIn_region_list (Kk nl _ hcalm _ _ hrun)) ?_;rintro x a1 W1 ⟨rfl,ρq,L⟩;refine⟨L.step.keeps hr1',λW2 hg2=>?_⟩;have hs1:Step ρ H nx ro w ρq H1 nx1 W2:=(h5r.trans L.step).gr hg2;refine k1 (some l) 2 (.inr hnr) _ _ _ _ _ _ _ hr2 (eA hroi sy1.up) ρq a1 W2 _ L.tr L.gl (L.hr.gr hg2) ((L.step.free hfi).left hnx2) (sy1.wf (h6r.wf hwf)) λρ2 a2 W3 L2=>?_
      have hk:=L2.step.keeps (L.hr.gr hg2);have hst:=hs1.trans L2.step;have hoff:Off (Sof ρi Hi) bb W (Sof ρ2 H2) W3:=j4j (j7p hcase) L.step hg2 L2.step;have hb7:∀k,zV ρ ys.1 k->¬Sof ρ2 H2 k:=λk hk=>by
       obtain⟨b,lc,_,q2,q3,rfl⟩:=hb1 k hk;have q4:=Sof.lt hr ⟨b,lc,q3,rfl,q2⟩;have q5:=h5.size;exact hoff.own _ (by omega) (h7 _ hk) (by omega)
      rcases hend with⟨rfl,hit2,hrest⟩ | ⟨hne,rfl,rfl,rfl⟩
      ·exact⟨hk,Sof ρ2 H2,⟨H2,nx2,ρ2,rfl,hrest,hit2,L2.hr,L2.gl,hst,(h6r.trans sy1).trans sy2,hb7⟩,hoff⟩
      ·cases e1 with
       | normal=>exact absurd rfl hne
       | exit id=>exact⟨hk,rfl,ρ2,L2.hr,L2.gl,hst,hb7⟩
       | ret=>exact⟨hk,rfl,ρ2,L2.hr,L2.gl,hst,hb7⟩
     ·rintro D S W hD ⟨Hi,nxi,ρi,_,h1,h2,h3,h4,h5,h6,h7⟩ hDm;rw[<-hlen,sT] at h1;simp only[kI,aG,aM] at h1;obtain⟨rfl,rfl,rfl⟩:=h1;exact hQ ρi { a with defers:={ target:=.collected D,args:=#[] }::a.defers } W ⟨h5,h3,⟨ht.size,λn=>VR.mono (hle0 (aU _) h5) _ _ (ht.val n)⟩,h4,[{ target:=.collected D,args:=#[] }],rfl,λd hd=>⟨D,bF.1 hd,hD,hDm⟩,Fu _ _⟩
     ·rintro D e0 W hD hne ⟨rfl,ρ',h3,h4,h5,h7⟩ hDm;exact hQ ρ' { a with defers:={ target:=.collected D,args:=#[] }::a.defers } W ⟨h5,h3,⟨ht.size,λn=>VR.mono (hle0 (aU _) h5) _ _ (ht.val n)⟩,h4,[{ target:=.collected D,args:=#[] }],rfl,λd hd=>⟨D,bF.1 hd,hD,hDm⟩,Fu _ _⟩
 | .rangeFunc g ps .skip b,c,hc | .rangeFunc g ps (.label _) b,c,hc | .rangeFunc g ps (.scope _) b,c,hc | .rangeFunc g ps (.exit _) b,c,hc | .rangeFunc g ps .ret b,c,hc | .rangeFunc g ps (.seq _ _) b,c,hc
 | .rangeFunc g ps (.cond _ _ _) b,c,hc | .rangeFunc g ps (.block _ _) b,c,hc | .rangeFunc g ps (.loop _) b,c,hc | .rangeFunc g ps (.goto _) b,c,hc | .rangeFunc g ps (.refuse _) b,c,hc | .rangeFunc g ps (.rangeFunc _ _ _ _) b,c,hc
 | .rangeFunc g ps (.region _ _ true) b,c,hc=>by
   simp only[cc,aG] at hc;subst hc;intro rr nn hrf tm H nx e tm' H' nx' h;cases h
end
end Go.Vm
