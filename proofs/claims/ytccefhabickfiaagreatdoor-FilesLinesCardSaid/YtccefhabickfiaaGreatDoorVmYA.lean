/- A region whose operations are written down in another order. -/
import Derived.Test.YtccefhabickfiaaGreatDoorVmA1
set_option linter.unusedSimpArgs false
set_option linter.unusedVariables false
namespace Go.Vm
def pT (π:List Nat) (n k:Nat):Nat:=if k<n then π.idxOf k else k
def I6 (π:List Nat) (n:Nat) (o:Oper):Oper:={ o with after:=o.after.map λe=>{ e with on:=pT π n e.on },guard:=o.guard.map λx=>(pT π n x.1,x.2) }
def qF (π:List Nat) (ops:Array Oper):Array Oper:=(π.filterMap λi=>(ops[i]?).map (I6 π ops.size)).toArray
structure PermOK (π:List Nat) (ops:Array Oper):Prop where
 len:π.length=ops.size
 lt:∀i∈π,i<ops.size
 all:∀k,k<ops.size->k∈π
 idx:∀(p i:Nat),π[p]?=some i->π.idxOf i=p
 ed:∀(j:Nat) (o:Oper),ops[j]?=some o->∀e∈o.after,e.on<ops.size
theorem j25 {π:List Nat} {ops:Array Oper} (h:PermOK π ops) {k:Nat} (hk:k<ops.size):k∈π:=h.all k hk
theorem jl2 {α β:Type} {f:α->Option β}:∀ {l:List α},(∀x∈l,(f x).isSome)->∀(p:Nat) (x:α),l[p]?=some x->(l.filterMap f)[p]?=f x/\(l.filterMap f).length=l.length
 | [],_,p,x,h=>by simp at h
 | a::l,ha,p,x,h=>by
   obtain⟨b,hb⟩:=rB.1 (ha a (bM ..));rw[List.filterMap_cons_some hb];cases p with
   | zero=>
     simp only[xK,aS] at h;subst h;refine⟨by simp[hb],?_⟩;cases l with
     | nil=>rfl
     | cons y l=>simp only[cM];rw[(jl2 (λz hz=>ha z (bN _ hz)) 0 y rfl).2];rfl
   | succ p=>
     simp only[O8] at h ⊢;obtain⟨h1,h2⟩:=jl2 (λz hz=>ha z (bN _ hz)) p x h;exact⟨h1,by simp[h2]⟩
section
variable {P:Program} {π:List Nat} {ops:Array Oper} {Q:Exit->Act->World->Prop}
theorem j24 (h:PermOK π ops) {p i:Nat} (hp:π[p]?=some i):(qF π ops)[p]?=(ops[i]?).map (I6 π ops.size):=by
 unfold qF;rw[qe5];exact(jl2 (λx hx=>by have:=h.lt x hx;simp[this]) p i hp).1
theorem jui (h:PermOK π ops):(qF π ops).size=ops.size:=by
 unfold qF;rw[qhb,<-h.len];cases hπ:π with
 | nil=>rfl
 | cons x l=>
   rw[<-hπ];exact(jl2 (λx hx=>by have:=h.lt x hx;simp[this]) 0 x (by rw[hπ];rfl)).2
theorem ju3 (h:PermOK π ops) {k:Nat} (hk:k<ops.size):π[pT π ops.size k]?=some k:=by
 unfold pT;rw[aH hk];have:=j25 h hk;rw[dI (qhw this)];simp
theorem jo1 (h:PermOK π ops) {k:Nat} (hk:k<ops.size):pT π ops.size k<ops.size:=by
 unfold pT;rw[aH hk,<-h.len];exact qhw (j25 h hk)
theorem juh (h:PermOK π ops) {k:Nat} (hk:k<ops.size):(qF π ops)[pT π ops.size k]?=(ops[k]?).map (I6 π ops.size):=j24 h (ju3 h hk)
theorem kop (h:PermOK π ops) (tmps:Array Value) (k:Nat):yielded (qF π ops) tmps (pT π ops.size k)=yielded ops tmps k:=by
 unfold yielded;by_cases hk:k<ops.size
 ·rw[juh h hk];cases ops[k]?<;>rfl
 ·have e1:ops[k]?=none:=qfj (by omega);have e2:(qF π ops)[pT π ops.size k]?=none:=by
   unfold pT;rw[aC hk];exact qfj (by rw[jui h];omega)
  rw[e1,e2]
theorem kok (h:PermOK π ops) (tmps:Array Value) (o:Oper):Region.wanted (I6 π ops.size o) (yielded (qF π ops) tmps)=Region.wanted o (yielded ops tmps):=by
 obtain⟨dst,op,type,pos,after,guard⟩:=o;cases guard with
 | none=>rfl
 | some x=>
   simp only[I6,iF,Region.wanted];rw[kop h]
theorem klk (o:Oper) (n:Nat) (a:Act) (w:World) (K:Act->World->Prop):(I6 π n o).wp P a w K Q=o.wp P a w K Q:=rfl
theorem klj (o:Oper) (n:Nat) (a:Act) (w:World):(I6 π n o).asks P a w=o.asks P a w:=rfl
def Both (π:List Nat) (n:Nat) (listed listed':Array Bool):Prop:=listed.size=n/\listed'.size=n/\∀k,k<n->listed'.getD (pT π n k) true=listed.getD k true
theorem jl8 {l:Array Bool} {k:Nat} (h:k<l.size):l.getD k false=l.getD k true:=by simp[Array.getD,h]
theorem j3e (h:PermOK π ops) {listed listed':Array Bool} (hb:Both π ops.size listed listed') {k:Nat} (hk:k∈Region.ready .any ops listed):pT π ops.size k∈Region.ready .any (qF π ops) listed':=by
 obtain⟨h1,h2,h3⟩:=hb;rw[mem_ready] at hk ⊢;obtain⟨h0,o,ho,hall⟩:=hk;have hlt:k<ops.size:=(jI.1 ho).1;refine⟨by rw[h3 k hlt];exact h0,I6 π ops.size o,by rw[juh h hlt,ho];rfl,λe he hbd=>?_⟩;simp only[I6,Array.mem_map] at he;obtain⟨e',he',rfl⟩:=he;have hon:=h.ed k o ho e' he';have:=hall e' he' hbd;show listed'.getD (pT π ops.size e'.on) false=true;rw[jl8 (by rw[h2];exact jo1 h hon),h3 _ hon,<-jl8 (by rw[h1];exact hon)];exact this
theorem Both.set (h:PermOK π ops) {listed listed':Array Bool} (hb:Both π ops.size listed listed') {i:Nat} (hi:i<ops.size):Both π ops.size (listed.setIfInBounds i true) (listed'.setIfInBounds (pT π ops.size i) true):=by
 obtain⟨h1,h2,h3⟩:=hb;refine⟨by simp[h1],by simp[h2],λk hk=>?_⟩;have hs:=jo1 h hk;have inj:pT π ops.size i=pT π ops.size k->i=k:=λe=>by
  have a:=ju3 h hi;have b:=ju3 h hk;rw[e,b] at a;cases a;rfl
 have g:∀(l:Array Bool) (p q:Nat),l.size=ops.size->q<ops.size->(l.setIfInBounds p true).getD q true=if p=q then true else l.getD q true:=λl p q hl hq=>by
  have hq':q<l.size:=by omega
  simp only[Array.getD,qfx,hq',dif_pos];by_cases hpq:p=q
  ·subst hpq;simp[hq']
  ·rw[aC hpq];exact qe2 _ hpq
 rw[g _ _ _ h2 hs,g _ _ _ h1 hk,h3 k hk];by_cases hik:i=k
 ·rw[aH hik,aH (by rw[hik])]
 ·rw[aC hik,aC λe=>hik (inj e)]
theorem j6d (h:PermOK π ops):∀(fuel:Nat) (listed listed':Array Bool) (a:Act) (w:World),Both π ops.size listed listed'->wpAny P .any (qF π ops) Q fuel listed' a w->wpAny P .any ops Q fuel listed a w
 | 0,listed,listed',a,w,hb,hw=>by
   refine⟨?_,hw.2⟩;cases hr:Region.ready .any ops listed with
   | nil=>rfl
   | cons x xs=>
     have:=j3e h hb (k:=x) (by rw[hr];exact bM ..);rw[hw.1] at this;cases this
 | fuel+1,listed,listed',a,w,hb,hw=>by
   obtain⟨h1,h2⟩:=hw;have hsz:=hb.1;refine⟨λhr=>h1 ?_,λi hi=>?_⟩
   ·cases hr':Region.ready .any (qF π ops) listed' with
    | nil=>rfl
    | cons x xs=>
      have hx:x∈Region.ready .any (qF π ops) listed':=by rw[hr'];exact bM ..
      obtain⟨b1,b2,b3⟩:=hb;rw[mem_ready] at hx;obtain⟨h0,o,ho,hall⟩:=hx;have hxlt:x<π.length:=by rw[h.len,<-jui h];exact(jI.1 ho).1
      have hπ:π[x]?=some π[x]:=by simp
      have hi:=h.lt _ (uP hπ);rw[j24 h hπ] at ho;obtain⟨o0,ho0⟩:∃o0,ops[π[x]]?=some o0:=⟨ops[π[x]],by simp[hi]⟩
      have hback:∀(p:Nat),p<ops.size->∀k,π[p]?=some k->pT π ops.size k=p:=λp _ k hk=>by
       unfold pT;rw[aH (h.lt k (uP hk))];exact h.idx p k hk
      have hready:π[x]∈Region.ready .any ops listed:=by
       rw[mem_ready];refine⟨?_,o0,ho0,λe he hbd=>?_⟩
       ·rw[<-b3 _ hi,hback x (by rw[<-h.len];exact hxlt) _ hπ];exact h0
       ·have hon:=h.ed _ o0 ho0 e he;rw[ho0] at ho;cases ho;have:=hall { e with on:=pT π ops.size e.on } (by
         simp only[I6,Array.mem_map];exact⟨e,he,rfl⟩) hbd
        simp only at this;rw[jl8 (by rw[b2];exact jo1 h hon),b3 _ hon] at this;rw[jl8 (by rw[b1];exact hon)];exact this
      rw[hr] at hready;cases hready
   ·have hk:=j3e h hb hi;have hlt:i<ops.size:=by
     rw[mem_ready] at hi;obtain⟨_,o,ho,_⟩:=hi;exact(jI.1 ho).1
    have key:=h2 _ hk;obtain⟨o,ho⟩:∃o,ops[i]?=some o:=⟨ops[i],by simp[hlt]⟩
    unfold wpOp at key ⊢;rw[juh h hlt,ho] at key;simp only[iF,kok h,klk,klj] at key;rw[ho];simp only;have mono:∀a w,wpAny P .any (qF π ops) Q fuel (listed'.setIfInBounds (pT π ops.size i) true) a w->wpAny P .any ops Q fuel (listed.setIfInBounds i true) a w:=λa w=>j6d h fuel _ _ a w (hb.set h hlt)
    split
    ·rename_i hw;rw[aH hw] at key;exact key.imp (λk=>Oper.wp_mono mono k) id
    ·rename_i hw;rw[aC hw] at key;exact mono _ _ key
end
end Go.Vm
