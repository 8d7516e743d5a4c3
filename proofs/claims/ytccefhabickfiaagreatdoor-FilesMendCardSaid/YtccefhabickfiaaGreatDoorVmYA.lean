/- Parts of the proof. -/
import Derived.Test.YtccefhabickfiaaGreatDoorVmA1
set_option linter.unusedSimpArgs false
set_option linter.defProp false
set_option linter.unusedVariables false
namespace Go.Vm
def kK (π:List Nat) (n k:Nat):Nat:=if k<n then π.idxOf k else k
def uC (π:List Nat) (n:Nat) (o:Oper):Oper:={ o with after:=o.after.map λe=>{ e with on:=kK π n e.on },guard:=o.guard.map λx=>(kK π n x.1,x.2) }
def kV (π:List Nat) (ops:Array Oper):Array Oper:=(π.filterMap λi=>(ops[i]?).map (uC π ops.size)).toArray
structure PermOK (π:List Nat) (ops:Array Oper):Prop where
 len:π.length=ops.size
 lt:∀i∈π,i<ops.size
 all:∀k,k<ops.size->k∈π
 idx:∀(p i:Nat),π[p]?=some i->π.idxOf i=p
 ed:∀(j:Nat) (o:Oper),ops[j]?=some o->∀e∈o.after,e.on<ops.size
def jn6 {π:List Nat} {ops:Array Oper} (h:PermOK π ops) {k:Nat} (hk:k<ops.size):k∈π:=h.all k hk
def Qp {α β:Type} {f:α->Option β}:∀ {l:List α},(∀x∈l,(f x).isSome)->∀(p:Nat) (x:α),l[p]?=some x->(l.filterMap f)[p]?=f x/\(l.filterMap f).length=l.length
 | [],_,p,x,h=>by simp at h
 | a::l,ha,p,x,h=>by
   obtain⟨b,hb⟩:=lN.1 (ha a (bY ..));rw[List.filterMap_cons_some hb];cases p with
   | zero=>
     simp only[pR,aG] at h;subst h;refine⟨by simp[hb],?_⟩;cases l with
     | nil=>rfl
     | cons y l=>simp only[dG];rw[(Qp (λz hz=>ha z (bX _ hz)) 0 y rfl).2];rfl
   | succ p=>
     simp only[vO] at h ⊢;obtain⟨h1,h2⟩:=Qp (λz hz=>ha z (bX _ hz)) p x h;exact⟨h1,by simp[h2]⟩
section
variable {P:Program} {π:List Nat} {ops:Array Oper} {Q:Exit->Act->World->Prop}
def jn5 (h:PermOK π ops) {p i:Nat} (hp:π[p]?=some i):(kV π ops)[p]?=(ops[i]?).map (uC π ops.size):=by
 unfold kV;rw[Fv];exact(Qp (λx hx=>by have:=h.lt x hx;simp[this]) p i hp).1
def jco (h:PermOK π ops):(kV π ops).size=ops.size:=by
 unfold kV;rw[Tm,<-h.len];cases hπ:π with
 | nil=>rfl
 | cons x l=>
   rw[<-hπ];exact(Qp (λx hx=>by have:=h.lt x hx;simp[this]) 0 x (by rw[hπ];rfl)).2
def jdi (h:PermOK π ops) {k:Nat} (hk:k<ops.size):π[kK π ops.size k]?=some k:=by
 unfold kK;rw[aK hk];have:=jn6 h hk;rw[dK (qf4 this)];simp
def Uz (h:PermOK π ops) {k:Nat} (hk:k<ops.size):kK π ops.size k<ops.size:=by
 unfold kK;rw[aK hk,<-h.len];exact qf4 (jn6 h hk)
def jcn (h:PermOK π ops) {k:Nat} (hk:k<ops.size):(kV π ops)[kK π ops.size k]?=(ops[k]?).map (uC π ops.size):=jn5 h (jdi h hk)
def kau (h:PermOK π ops) (tmps:Array Value) (k:Nat):yielded (kV π ops) tmps (kK π ops.size k)=yielded ops tmps k:=by
 unfold yielded;by_cases hk:k<ops.size
 ·rw[jcn h hk];cases ops[k]?<;>rfl
 ·have e1:ops[k]?=none:=Lf (by omega);have e2:(kV π ops)[kK π ops.size k]?=none:=by
   unfold kK;rw[aD hk];exact Lf (by rw[jco h];omega)
  rw[e1,e2]
def kaj (h:PermOK π ops) (tmps:Array Value) (o:Oper):Region.wanted (uC π ops.size o) (yielded (kV π ops) tmps)=Region.wanted o (yielded ops tmps):=by
 obtain⟨dst,op,type,pos,after,guard⟩:=o;cases guard with
 | none=>rfl
 | some x=>
   simp only[uC,eX,Region.wanted];rw[kau h]
def j5p (o:Oper) (n:Nat) (a:Act) (w:World) (K:Act->World->Prop):(uC π n o).wp P a w K Q=o.wp P a w K Q:=rfl
def j5o (o:Oper) (n:Nat) (a:Act) (w:World):(uC π n o).asks P a w=o.asks P a w:=rfl
def Both (π:List Nat) (n:Nat) (listed listed':Array Bool):Prop:=listed.size=n/\listed'.size=n/\∀k,k<n->listed'.getD (kK π n k) true=listed.getD k true
def Qu {l:Array Bool} {k:Nat} (h:k<l.size):l.getD k false=l.getD k true:=by simp[Array.getD,h]
def jol (h:PermOK π ops) {listed listed':Array Bool} (hb:Both π ops.size listed listed') {k:Nat} (hk:k∈Region.ready .any ops listed):kK π ops.size k∈Region.ready .any (kV π ops) listed':=by
 obtain⟨h1,h2,h3⟩:=hb;rw[mem_ready] at hk ⊢;obtain⟨h0,o,ho,hall⟩:=hk;have hlt:k<ops.size:=(eJ.1 ho).1;refine⟨by rw[h3 k hlt];exact h0,uC π ops.size o,by rw[jcn h hlt,ho];rfl,λe he hbd=>?_⟩;simp only[uC,Array.mem_map] at he;obtain⟨e',he',rfl⟩:=he;have hon:=h.ed k o ho e' he';have:=hall e' he' hbd;show listed'.getD (kK π ops.size e'.on) false=true;rw[Qu (by rw[h2];exact Uz h hon),h3 _ hon,<-Qu (by rw[h1];exact hon)];exact this
def Both.set (h:PermOK π ops) {listed listed':Array Bool} (hb:Both π ops.size listed listed') {i:Nat} (hi:i<ops.size):Both π ops.size (listed.setIfInBounds i true) (listed'.setIfInBounds (kK π ops.size i) true):=by
 obtain⟨h1,h2,h3⟩:=hb;refine⟨by simp[h1],by simp[h2],λk hk=>?_⟩;have hs:=Uz h hk;have inj:kK π ops.size i=kK π ops.size k->i=k:=λe=>by
  have a:=jdi h hi;have b:=jdi h hk;rw[e,b] at a;cases a;rfl
 have g:∀(l:Array Bool) (p q:Nat),l.size=ops.size->q<ops.size->(l.setIfInBounds p true).getD q true=if p=q then true else l.getD q true:=λl p q hl hq=>by
  have hq':q<l.size:=by omega
  simp only[Array.getD,Th,hq',dif_pos];by_cases hpq:p=q
  ·subst hpq;simp[hq']
  ·rw[aD hpq];exact Sx _ hpq
 rw[g _ _ _ h2 hs,g _ _ _ h1 hk,h3 k hk];by_cases hik:i=k
 ·rw[aK hik,aK (by rw[hik])]
 ·rw[aD hik,aD λe=>hik (inj e)]
def jrr (h:PermOK π ops):∀(fuel:Nat) (listed listed':Array Bool) (a:Act) (w:World),Both π ops.size listed listed'->wpAny P .any (kV π ops) Q fuel listed' a w->wpAny P .any ops Q fuel listed a w
 | 0,listed,listed',a,w,hb,hw=>by
   refine⟨?_,hw.2⟩;cases hr:Region.ready .any ops listed with
   | nil=>rfl
   | cons x xs=>
     have:=jol h hb (k:=x) (by rw[hr];exact bY ..);rw[hw.1] at this;cases this
 | fuel+1,listed,listed',a,w,hb,hw=>by
   obtain⟨h1,h2⟩:=hw;have hsz:=hb.1;refine⟨λhr=>h1 ?_,λi hi=>?_⟩
   ·cases hr':Region.ready .any (kV π ops) listed' with
    | nil=>rfl
    | cons x xs=>
      have hx:x∈Region.ready .any (kV π ops) listed':=by rw[hr'];exact bY ..
      obtain⟨b1,b2,b3⟩:=hb;rw[mem_ready] at hx;obtain⟨h0,o,ho,hall⟩:=hx;have hxlt:x<π.length:=by rw[h.len,<-jco h];exact(eJ.1 ho).1
      have hπ:π[x]?=some π[x]:=by simp
      have hi:=h.lt _ (rC hπ);rw[jn5 h hπ] at ho;obtain⟨o0,ho0⟩:∃o0,ops[π[x]]?=some o0:=⟨ops[π[x]],by simp[hi]⟩
      have hback:∀(p:Nat),p<ops.size->∀k,π[p]?=some k->kK π ops.size k=p:=λp _ k hk=>by
       unfold kK;rw[aK (h.lt k (rC hk))];exact h.idx p k hk
      have hready:π[x]∈Region.ready .any ops listed:=by
       rw[mem_ready];refine⟨?_,o0,ho0,λe he hbd=>?_⟩
       ·rw[<-b3 _ hi,hback x (by rw[<-h.len];exact hxlt) _ hπ];exact h0
       ·have hon:=h.ed _ o0 ho0 e he;rw[ho0] at ho;cases ho;have:=hall { e with on:=kK π ops.size e.on } (by
         simp only[uC,Array.mem_map];exact⟨e,he,rfl⟩) hbd
        simp only at this;rw[Qu (by rw[b2];exact Uz h hon),b3 _ hon] at this;rw[Qu (by rw[b1];exact hon)];exact this
      rw[hr] at hready;cases hready
   ·have hk:=jol h hb hi;have hlt:i<ops.size:=by
     rw[mem_ready] at hi;obtain⟨_,o,ho,_⟩:=hi;exact(eJ.1 ho).1
    have key:=h2 _ hk;obtain⟨o,ho⟩:∃o,ops[i]?=some o:=⟨ops[i],by simp[hlt]⟩
    unfold wpOp at key ⊢;rw[jcn h hlt,ho] at key;simp only[eX,kaj h,j5p,j5o] at key;rw[ho];simp only;have mono:∀a w,wpAny P .any (kV π ops) Q fuel (listed'.setIfInBounds (kK π ops.size i) true) a w->wpAny P .any ops Q fuel (listed.setIfInBounds i true) a w:=λa w=>jrr h fuel _ _ a w (hb.set h hlt)
    split
    ·rename_i hw;rw[aK hw] at key;exact key.imp (λk=>Oper.wp_mono mono k) id
    ·rename_i hw;rw[aD hw] at key;exact mono _ _ key
end
end Go.Vm
