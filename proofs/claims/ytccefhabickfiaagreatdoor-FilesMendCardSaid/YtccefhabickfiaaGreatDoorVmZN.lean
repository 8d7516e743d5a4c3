/- Parts of the proof. -/
import Derived.Test.YtccefhabickfiaaGreatDoorVmZM
set_option linter.unusedSimpArgs false
set_option linter.unusedVariables false
namespace Go.Vm
section
variable {P:Program} {gl:List Nat} {nt:Nat} {call:FuncId->List AV->Tr Blk->Nat->Nat->bN} {ro:Nat} {ρ:RM}
def Gi (tmps:Array Value):ResultVar->Sem Value
 | .tmp t=>pure (tmps.getD t undef)
 | .cell a t=>do loadVar t (<-asAddr (tmps.getD a undef))
theorem j6w {tm:Tr AV} {H:Tr Blk} {a:Act} {w:World} (ht:TR ρ nt tm a) (hr:HR ρ H w) {rv:ResultVar} {r:CRes} (hc:Jd P rv=some r) {v:AV} (h:Gj tm H r=some v):
  ∃v',(Gi a.tmps rv).run P w=.ok v' w/\VR ρ v v':=by
 cases rv with
 | tmp t=>
   simp only[Jd,aG] at hc;subst hc;simp only[Gj,aG] at h;subst h;exact⟨_,rfl,ht.val t⟩
 | cell x t=>
   simp only[Jd,cX] at hc;obtain⟨s,hs,rfl⟩:=hc;obtain⟨i,d,k1,k2,rfl⟩:=qV hs;simp only[Gj] at h;split at h
   ·rename_i b o hq;have kx:=ht.val x;simp only[aT,hq,nL,VR] at kx;obtain⟨lc,l1,l2⟩:=kx;split at h
    ·rename_i ct m hb;obtain⟨hm,h⟩:=aR h;rw[aP,aH] at hm;split at h
     ·rename_i l hl;obtain⟨vs,r1,r2,r3,r4⟩:=zW (P:=P) hr hb l1 hm hl;rcases jby h r1 with⟨q1,q2⟩ | ⟨q1,u,q2,q3⟩
      ·refine⟨_,?_,q2⟩;simp only[Gi,l2,asAddr,cQ,dI,cJ,loadVar,Gm k2,q1,bR,iM k1,r4]
      ·subst q2;refine⟨u,?_,q3⟩;have r5:=r3 0 u rfl;rw[nZ,iV] at r5;simp only[Gi,l2,asAddr,cQ,dI,cJ,loadVar,Gm k2,q1,fX,cO,run_load,r5]
     ·cases h
    ·cases h
   ·cases h
theorem jc2 {tm:Tr AV} {H:Tr Blk} {a:Act} {w:World} (ht:TR ρ nt tm a) (hr:HR ρ H w):∀(l:List ResultVar) (rs:List CRes),l.mapM (Jd P)=some rs->∀(vs:List AV),sX tm H rs=some vs->
  ∃ws:List Value,(l.mapM (Gi a.tmps)).run P w=.ok ws w/\VRs ρ vs ws
 | [],rs,hm,vs,h=>by
   simp only[qg9,yJ,aG] at hm;subst hm;simp only[sX,aG] at h;subst h;exact⟨[],rfl,rfl⟩
 | x::l,rs,hm,vs,h=>by
   simp only[yN,fS,dN,yJ,aG] at hm;obtain⟨r,hr1,rs',hrs,rfl⟩:=hm;simp only[sX] at h;split at h
   ·cases h
   ·rename_i v hv;split at h
    ·cases h
    ·rename_i vs' hvs;cases h;obtain⟨v',e1,e2⟩:=j6w ht hr hr1 hv;obtain⟨ws,e3,e4⟩:=jc2 ht hr l rs' hrs vs' hvs;refine⟨v'::ws,?_,?_⟩
     ·simp only[yN,cQ,e1,cJ,e3,dI]
     ·simp only[VRs];exact⟨_,_,rfl,e2,e4⟩
theorem jpa {fn:Func} {tmps:Array Value} {w:World} {ws:List Value} (h:(fn.results.toList.mapM (Gi tmps)).run P w=.ok ws w):
  (results fn tmps).run P w=.ok (if h:ws.toArray.size=1 then ws.toArray[0] else .tuple ws.toArray) w:=by
 have e:results fn tmps=(do let vs <-fn.results.mapM (Gi tmps);pure (if h:vs.size=1 then vs[0] else .tuple vs)):=rfl;rw[e,qgh];simp[h]
theorem jxa (hsyn:iY call) {c:CFn} {as:List AV} {H H':Tr Blk} {nx nx':Nat} {v:AV} (h:tL call ro c as H nx=some (v,H',nx')):Syn H nx ro H' nx':=by
 unfold tL at h;obtain⟨_,h⟩:=aR h;rw[jP] at h;split at h
 ·cases h
 ·rename_i e tm1 H1 nx1 hne h1;have s:=lV hsyn c.body _ _ _ _ _ _ _ h1;split at h<;>first | (simp only[aG,aM] at h;obtain⟨_,rfl,rfl⟩:=h;exact s) | cases h
 ·cases h
theorem jmb {F:Fence} {n:Nat} {fn:Func} {tmps:Array Value} {R:Ending->World->Prop} {B:Nat}:∀(ms:List Deferred) (w:World),Marks B ms w->ms.Pairwise (·≠·)->
  (∀w',Gr B w w'->∃v,(results fn tmps).run P w'=.ok v w'/\R (.returned v) w')->LeavesInM F n P fn tmps R ms .returning w
 | [],w,_,_,h=>h w (Gr.refl _ _)
 | d::ms,w,hm,hp,h=>by
   obtain⟨D,h1,h2,h3⟩:=hm d (by simp);refine⟨by simp,.inl ⟨D,_,by rw[h1],run_takeDeferred h3,?_⟩⟩;rw[mT] at hp;have hg:Gr B w (w.putObj D (.deferred none)):=Gr.putObj _ h2 h3 rfl;refine jmb ms _ (λd' hd'=>?_) hp.2 λw' hg'=>h w' (hg.trans hg')
   obtain⟨D',k1,k2,k3⟩:=hm d' (by simp[hd']);refine⟨D',k1,k2,?_⟩;have hne:D'≠D:=λe=>hp.1 d' hd' (by rw[h1,k1,e])
   exact(World.putObj_heap_other (by omega)).trans k3
theorem jw9 (hcall:lS P gl call) (hsyn:iY call) (hm:P.follows .mixedOrders=true) {f:FuncId} {fn:Func} (hf:P.funcs[f]?=some fn) {its:nV} (hits:wL P gl its) {c:CFn} (hc:cfn P gl fn its=some c)
  {as:List AV} {H H':Tr Blk} {nx nx':Nat} {v:AV} (h:tL call ro c as H nx=some (v,H',nx')) (hro:ro<=nx) {w:World} {args:Array Value} (hr:HR ρ H w) (hfr:Free ρ nx nx') (hgl:GLok gl ρ) (hwf:WF H nx)
  (ha:VRs ρ as args.toList):(∃fn,P.funcs[f]?=some fn/\(fn.name== "runtime.NumGoroutine")=false/\fn.body.isSome=true)/\
  Calls P f args w (λen w'=>∃v',en=.returned v'/\Ends ρ H nx ro w v H' nx' v' w'):=by
 unfold cfn at hc;split at hc
 ·cases hc
 ·rename_i b hb;split at hc
  ·rename_i c1 rs h1 h2;split at hc
   ·cases hc
   ·rename_i hname;simp only[aG] at hc;subst hc;refine⟨⟨fn,hf,by simpa using hname,by rw[hb];rfl⟩,?_⟩;refine Ys (r:=none) (n:=0) (callsIn_of_wp_marks hf hb trivial ?_ rfl);unfold tL at h;obtain⟨hlen,h⟩:=aR h;rw[aP,aH] at hlen;rw[jP] at h;have hal:as.length=args.size:=by have:=ha.length;simpa using this
    have ht:TR ρ fn.ntmps (put as 0 .e) { tmps:=args++Array.replicate (fn.ntmps-args.size) undef,defers:=[] }:=by
     have hlen':as.length<=fn.ntmps:=hlen;refine⟨by simp;omega,λn=>?_⟩;simp only[aT,mP,fM,true_and,iC,nN];rw[Tc,Array.getElem?_append];by_cases hn:n<as.length
     ·obtain⟨x,hx⟩:∃x,as[n]?=some x:=⟨as[n],by simp[hn]⟩
      obtain⟨y,hy,hxy⟩:=ha.get hx;rw[aK hn,aK (by omega),hx];have:args[n]?=some y:=by simpa using hy
      rw[this];exact hxy
     ·rw[aD hn,aD (by omega)];have h5:((Array.replicate (fn.ntmps-args.size) undef)[n-args.size]?.getD undef)=undef:=by
       rw[qe7];split<;>rfl
      rw[h5];simp only[Tr.get,Option.getD_none,VR];exact⟨#[],rfl,rfl⟩
    have fin:∀(tm1:Tr AV) (H1:Tr Blk) (nx1:Nat),(match sX tm1 H1 rs with | some [v]=>some (v,H1,nx1) | some vs=>some (.tup vs,H1,nx1) | none=>none)=some (v,H',nx')->
      H1=H'/\nx1=nx'/\∀(ρ1:RM) (a1:Act) (w1:World),LeftM gl fn.ntmps ρ H nx ro w { tmps:=args++Array.replicate (fn.ntmps-args.size) undef,defers:=[] } tm1 H1 nx1 a1 w1 ρ1->
       ∀w2,Gr w.heap.size w1 w2->∃u,(results fn a1.tmps).run P w2=.ok u w2/\∃v',Ending.returned u=.returned v'/\Ends ρ H nx ro w v H' nx' v' w2:=by
     intro tm1 H1 nx1 hv;split at hv
     ·rename_i v0 hvs;simp only[aG,aM] at hv;obtain⟨rfl,rfl,rfl⟩:=hv;refine⟨rfl,rfl,λρ1 a1 w1 L w2 hg=>?_⟩;obtain⟨ws,e1,e2⟩:=jc2 L.tr (L.hr.gr hg) _ _ h2 _ hvs;refine⟨_,jpa e1,_,rfl,ρ1,L.step.gr hg,L.hr.gr hg,?_⟩;simp only[VRs] at e2;obtain⟨u,_,rfl,e3,rfl⟩:=e2;simpa using e3
     ·rename_i vs hne hvs;simp only[aG,aM] at hv;obtain⟨rfl,rfl,rfl⟩:=hv;refine⟨rfl,rfl,λρ1 a1 w1 L w2 hg=>?_⟩;obtain⟨ws,e1,e2⟩:=jc2 L.tr (L.hr.gr hg) _ _ h2 _ hvs;refine⟨_,jpa e1,_,rfl,ρ1,L.step.gr hg,L.hr.gr hg,?_⟩;have hl1:=e2.length;have:ws.toArray.size≠1:=by
       intro hs
       match vs,hl1,hne with
       | [],hl1,_=>simp at hl1 hs;omega
       | [x],_,hne=>exact hne x rfl
       | x::y::r,hl1,_=>simp at hl1 hs;omega
      rw[dif_neg this];simp only[VR];exact⟨_,rfl,e2⟩
     ·cases hv
    split at h
    ·cases h
    ·rename_i e tm1 H1 nx1 hne hx;obtain⟨rfl,rfl,key⟩:=fin tm1 H1 nx1 h;refine vA hits hcall hsyn hm b c1 h1 none 0 (.inl rfl) _ _ _ _ _ _ _ hx hro ρ _ w _ ht hgl hr hfr hwf λρ1 a1 w1 L=>?_
     obtain⟨ms,hd,hmk,hpw⟩:=L.dfr;have hd':a1.defers=ms:=by rw[hd];simp
     have key2:LeavesInM (Fr none) 0 P fn a1.tmps (λen w'=>∃v',en=.returned v'/\Ends ρ H nx ro w v H1 nx1 v' w') a1.defers .returning w1:=by
      rw[hd'];exact jmb ms w1 hmk hpw λw2 hg=>key ρ1 a1 w1 L w2 hg
     cases e with
     | normal=>exact key2
     | ret=>exact key2
     | exit id=>exact(hne _ rfl).elim
    ·cases h
  ·cases hc
def Ib (P:Program) (gl:List Nat) (prog:Tr CFn):Prop:=∀f c,prog.get f=some c->∃fn,P.funcs[f]?=some fn/\∃its,wL P gl its/\cfn P gl fn its=some c
end
end Go.Vm
