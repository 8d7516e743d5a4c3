/- Parts of the proof. -/
import Derived.Test.YtccefhabickfiaaGreatDoorVmZI
set_option linter.unusedSimpArgs false
set_option linter.defProp false
set_option linter.unusedVariables false
namespace Go.Vm
def COp.still (c:COp):Bool:=c.isP||c.isLoad
def jl4 {c:COp} (h:c.isLoad=true):∃x,c.loadAt=some x:=by
 unfold COp.isLoad at h;unfold COp.loadAt;split at h
 ·rename_i agg n x hj;exact⟨x,rfl⟩
 ·cases h
def Sd {c:COp} (h:c.still=false):c.isP=false/\c.isLoad=false:=by simpa[COp.still] using h
def jkz {c:COp} {x:Opd} (h:c.loadAt=some x):c.isLoad=true:=by
 unfold COp.loadAt at h;unfold COp.isLoad;split at h
 ·rfl
 ·cases h
structure Drawn (P:Program) (gl:List Nat) (nt:Nat) (ops:Array Oper) (ms:List COp) (an:List Nat):Prop where
 len:ms.length=ops.size
 comp:∀(i:Nat) (o:Oper) (c:COp),ops[i]?=some o->ms[i]?=some c->CompOp P gl nt ops o c
 es:∀(j:Nat) (o:Oper) (e:Edge),ops[j]?=some o->e∈o.after.toList->Region.binds .any e=true->e.on<j
 anc:∀(j i:Nat) (o:Oper),ops[j]?=some o->i<ops.size->(an.getD j 0).testBit i=true->∃e∈o.after.toList,Region.binds .any e=true/\(e.on=i\/(an.getD e.on 0).testBit i=true)
 pair:∀(i j:Nat) (x y:COp),i<j->ms[i]?=some x->ms[j]?=some y->(an.getD j 0).testBit i=false->sL x y=true
 kept:∀(j:Nat) (y:COp) (t k:Nat) (z:COp),ms[j]?=some y->Opd.t t∈y.ex->k<j->ms[k]?=some z->z.loadAt=some (.t t)->∀(k':Nat) (u:COp),k<=k'->k'<j->ms[k']?=some u->u.dst≠some t
 keptD:∀(j:Nat) (y:COp) (t k:Nat) (z:COp),ms[j]?=some y->Opd.t t∈y.ex->k<j->ms[k]?=some z->z.lays=true->z.dst=some t->∀(k':Nat) (u:COp),k<k'->k'<j->ms[k']?=some u->u.dst≠some t
def j02 (an:List Nat) (cs:List COp) (j:Nat) (y:COp):(Kl an cs j y).j=y.j/\(Kl an cs j y).dst=y.dst/\(Kl an cs j y).guard=y.guard:=by
 unfold Kl;simp only;split
 ·exact⟨rfl,rfl,rfl⟩
 ·exact⟨rfl,rfl,rfl⟩
 ·split
  ·exact⟨rfl,rfl,rfl⟩
  ·split<;>exact⟨rfl,rfl,rfl⟩
 ·split
  ·exact⟨rfl,rfl,rfl⟩
  ·split<;>exact⟨rfl,rfl,rfl⟩
 ·split
  ·exact⟨rfl,rfl,rfl⟩
  ·split<;>exact⟨rfl,rfl,rfl⟩
def jma {α β:Type} {f:α->Option β}:∀ {l:List α} {r:List β},l.mapM f=some r->r.length=l.length/\∀(i:Nat) (a:α) (b:β),l[i]?=some a->r[i]?=some b->f a=some b
 | [],r,h=>by
   simp only[qg9,yJ,aG] at h;subst h;exact⟨rfl,λi a b h=>by simp at h⟩
 | x::l,r,h=>by
   simp only[yN,fS,dN,yJ,aG] at h;obtain⟨b,hb,r',hr,rfl⟩:=h;obtain⟨h1,h2⟩:=jma hr;refine⟨by simp[h1],λi a c ha hc=>?_⟩;cases i with
   | zero=>
     simp only[pR,aG] at ha hc;subst ha;subst hc;exact hb
   | succ i=>exact h2 i a c (by simpa using ha) (by simpa using hc)
section
variable {P:Program} {gl:List Nat} {nt:Nat} {ops:Array Oper} {ms cs:List COp}
def sW {n:Nat} {p:Nat->Bool} (h:(List.range n).all p=true) (i:Nat) (hi:i<n):p i=true:=bS.1 h i (jI.2 hi)
def jx3 (hm:ops.toList.mapM (tO P gl nt ops)=some cs) (hd:zY ops cs=some ms):Drawn P gl nt ops ms (Region.before ops).toList:=by
 obtain⟨l1,l2⟩:=jma hm;unfold zY at hd;simp only at hd;split at hd
 rotate_left
 ·cases hd
 rename_i hc;simp only[aN] at hc;obtain⟨⟨⟨c1,c2⟩,c3⟩,c4⟩:=hc;simp only[aG] at hd;rw[hd] at c3 c4;have hlen:ms.length=cs.length:=by rw[<-hd];simp
 have hn:ms.length=ops.size:=by rw[hlen,l1];simp
 have hel:(ops.toList.map qM).length=ops.size:=by simp
 have hget:∀j o,ops[j]?=some o->(ops.toList.map qM).getD j []=qM o:=by
  intro j o h;rw[jF,jH];simp[h]
 have hlt:∀j o,ops[j]?=some o->j<ops.size:=λj o h=>(eJ.1 h).1
 have hlt':∀j c,ms[j]?=some c->j<ms.length:=λj o h=>(jG.1 h).1
 refine⟨hn,?_,?_,?_,?_,?_,?_⟩
 ·intro i o c ho hc;rw[<-hd] at hc;simp only[jH,List.getElem?_zipIdx,Option.map_map,cX,Function.comp] at hc;obtain⟨y,hy,rfl⟩:=hc;obtain⟨q,_⟩:=jik (l2 i o y (by simpa using ho) hy);obtain⟨m1,m2,m3⟩:=j02 (Region.before ops).toList cs i y;simp only[iC];refine⟨m1.trans q.j,m2.trans q.dst,?_,?_⟩
  ·rw[m2];exact q.lt
  ·rw[m3];exact q.guard
 ·intro j o e ho he hb;unfold Do at c1;rw[hel] at c1;have:=sW c1 j (hlt j o ho);rw[hget j o ho] at this;have:=bS.1 this e.on (yK.2 ⟨e,he,by simp[hb]⟩);simpa using this
 ·intro j i o ho hi ht;unfold Il at c2;rw[hel] at c2;have:=sW (sW c2 j (hlt j o ho)) i hi;rw[ht,hget j o ho] at this;simp only[fC,oO,Ga] at this;obtain⟨k,hk,hk2⟩:=this;obtain⟨e,he,he2⟩:=yK.1 hk;split at he2
  ·rename_i hb;cases he2;refine⟨e,he,hb,?_⟩;simpa using hk2
  ·cases he2
 ·intro i j x y hij hx hy ht;unfold jnu at c3;have:=sW (sW c3 j (hlt' j y hy)) i hij;rw[ht,hx,hy] at this;simpa using this
 ·intro j y t k z hy ht hk hz hl k' u h1 h2 hu;unfold Zy at c4;have:=sW c4 j (hlt' j y hy);rw[hy] at this;simp only at this;have:=bS.1 this _ ht;simp only at this;have:=sW this k hk;rw[hz] at this;have:=(kO this).1;simp only[hl] at this;simp only[beq_self_eq_true,fC,oO] at this;have:=sW this k' h2;rw[hu] at this;have hnot:decide (k'<k)=false:=by simpa using h1
  rw[hnot] at this;simpa using this
 ·intro j y t k z hy ht hk hz hl hd' k' u h1 h2 hu;unfold Zy at c4;have:=sW c4 j (hlt' j y hy);rw[hy] at this;simp only at this;have:=bS.1 this _ ht;simp only at this;have:=sW this k hk;rw[hz] at this;have:=(kO this).2;rw[hl,hd'] at this;simp only[beq_self_eq_true,kH,fC,oO] at this;have:=sW this k' h2;rw[hu] at this;have hnot:k'.ble k=false:=by rw[aP];simpa using h1
  rw[hnot] at this;simpa using this
end
structure Part (ρ0:RM) (H0:Tr Blk) (c0 cn ro:Nat) (w0:World) (ρ:RM) (w:World):Prop where
 os:w.os=w0.os
 tape:w.tape=w0.tape
 output:w.output=w0.output
 size:w0.heap.size<=w.heap.size
 ext:∀b,(b<c0\/cn<=b)->ρ b=ρ0 b
 keep:∀x,x<w0.heap.size->(∀b l,ρ0 b=some l->l.blk=x->(H0.get b).isSome->b<ro)->w.heap[x]?=w0.heap[x]?
 fresh:∀b l,c0<=b->b<cn->ρ b=some l->(w0.heap.size<=l.blk/\l.blk<w.heap.size)\/∃b0 l0,ro<=b0/\(H0.get b0).isSome/\ρ0 b0=some l0/\l0.blk=l.blk
def Part.step {ρ0 ρ ρ':RM} {H0 H H':Tr Blk} {c0 cn ro c c':Nat} {w0 w w':World} (p:Part ρ0 H0 c0 cn ro w0 ρ w) (s:Step ρ H c ro w ρ' H' c' w') (h1:c0<=c) (h2:c'<=cn)
  (hwf:WF H c) (hl:∀b,(H.get b).isSome->c0<=b\/(H0.get b).isSome):Part ρ0 H0 c0 cn ro w0 ρ' w' where
 os:=s.os.trans p.os
 tape:=s.tape.trans p.tape
 output:=s.output.trans p.output
 size:=eA p.size s.size
 ext b hb:=by have:=s.up;rw[s.ext b (by omega),p.ext b hb]
 keep x hx hk:=by
  have u:=s.up;rw[s.keep x (kB hx p.size) ?_,p.keep x hx hk];intro b l hb hx' hs;by_cases hb0:b<c0
  ·rw[p.ext b (.inl hb0)] at hb;refine hk b l hb hx' ?_;rcases hl b hs with h | h
   ·omega
   ·exact h
  ·have:=hwf b hs;rcases p.fresh b l (by omega) (by omega) hb with⟨h3,_⟩ | ⟨b0,l0,h3,h4,h5,h6⟩
   ·omega
   ·have:=hk b0 l0 h5 (h6.trans hx') h4;omega
 fresh b l hb hb' hl':=by
  have a3:=p.size;have a4:=s.size;have u:=s.up
  have old:∀b l,c0<=b->b<cn->ρ b=some l->(w0.heap.size<=l.blk/\l.blk<w'.heap.size)\/∃b0 l0,ro<=b0/\(H0.get b0).isSome/\ρ0 b0=some l0/\l0.blk=l.blk:=by
   intro b l g1 g2 g3;rcases p.fresh b l g1 g2 g3 with⟨h3,h4⟩ | h3
   ·exact .inl ⟨h3,by omega⟩
   ·exact .inr h3
  by_cases hbc:b<c\/c'<=b
  ·exact old b l hb hb' ((s.ext b hbc)▸hl')
  ·rcases s.fresh b l (by omega) (by omega) hl' with⟨h3,h4⟩ | ⟨b0,l0,h3,h4,h5,h6⟩
   ·exact .inl ⟨by omega,h4⟩
   ·by_cases hb0:b0<c0
    ·rcases hl b0 h4 with h | h
     ·omega
     ·exact .inr ⟨b0,l0,h3,h,(p.ext b0 (.inl hb0))▸h5,h6⟩
    ·have:=hwf b0 h4;rw[<-h6];exact old b0 l0 (by omega) (by omega) h5
section
variable {P:Program} {gl:List Nat} {nt:Nat} {ops:Array Oper} {ms:List COp} {an:List Nat} {call:FuncId->List AV->Tr Blk->Nat->Nat->bN} {ro:Nat} {T:Nat->St} {V:Nat->AV}
def Trace.syn (hsyn:iY call) (tr:Trace call ro ms T V) {k:Nat} {c:COp} (h:ms[k]?=some c):Syn (T k).2.1 (T k).2.2 (roOf c (T k).2.2 ro) (T (k+1)).2.1 (T (k+1)).2.2:=
 jc4 hsyn (tr.step k c h).1
def Trace.up (hsyn:iY call) (tr:Trace call ro ms T V) {j:Nat}:∀(d:Nat),j+d<=ms.length->(T j).2.2<=(T (j+d)).2.2
 | 0,_=>aU _
 | d+1,h=>by
   have h1:=Trace.up hsyn tr (j:=j) d (by omega);have h2:=(tr.syn hsyn (k:=j+d) (c:=ms[j+d]'(by omega)) (by simp)).up;exact eA h1 h2
def Trace.mono (hsyn:iY call) (tr:Trace call ro ms T V) {j k:Nat} (h:j<=k) (hk:k<=ms.length):(T j).2.2<=(T k).2.2:=by
 obtain⟨d,rfl⟩:∃d,k=j+d:=⟨k-j,by omega⟩
 exact tr.up hsyn d hk
def Trace.wf (hsyn:iY call) (tr:Trace call ro ms T V) (h0:WF (T 0).2.1 (T 0).2.2):∀(k:Nat),k<=ms.length->WF (T k).2.1 (T k).2.2
 | 0,_=>h0
 | k+1,h=>(tr.syn hsyn (k:=k) (c:=ms[k]'(by omega)) (by simp)).wf (Trace.wf hsyn tr h0 k (by omega))
def Trace.live (hsyn:iY call) (tr:Trace call ro ms T V):∀(k:Nat),k<=ms.length->∀b,((T k).2.1.get b).isSome->(T 0).2.2<=b\/((T 0).2.1.get b).isSome
 | 0,_,b,h=>.inr h
 | k+1,hk,b,h=>by
   rcases(tr.syn hsyn (k:=k) (c:=ms[k]'(by omega)) (by simp)).live b h with h1 | h1
   ·have:=tr.mono hsyn (j:=0) (k:=k) (by omega) (by omega);exact .inl (by omega)
   ·exact Trace.live hsyn tr k (by omega) b h1
def Trace.still (tr:Trace call ro ms T V) {k:Nat} {c:COp} (h:ms[k]?=some c) (hs:c.still=true):(T (k+1)).2.1=(T k).2.1/\(T (k+1)).2.2=(T k).2.2:=by
 have h1:=(tr.step k c h).1;unfold COp.still at hs;rw[kD] at hs;rcases hs with hs | hs
 ·obtain⟨a,b,_⟩:=jo7 hs h1;exact⟨a,b⟩
 ·obtain⟨x,hx⟩:=jl4 hs;obtain⟨a,b,_⟩:=jo6 hx h1;exact⟨a,b⟩
def Trace.same (hsyn:iY call) (tr:Trace call ro ms T V) {i b:Nat} (hb:b< (T i).2.2):∀(d:Nat),i+d<=ms.length->
  (∀k c,i<=k->k<i+d->ms[k]?=some c->c.still=false->c.q=true\/(T (k+1)).2.1.get b=(T k).2.1.get b)->(T (i+d)).2.1.get b=(T i).2.1.get b
 | 0,_,_=>rfl
 | d+1,h,hq=>by
   have ih:=Trace.same hsyn tr hb d (by omega) λk c h1 h2=>hq k c h1 (by omega)
   have hc:ms[i+d]?=some (ms[i+d]'(by omega)):=by simp
   rw[<-ih];show(T (i+d+1)).2.1.get b=_;cases hs:(ms[i+d]'(by omega)).still with
   | true=>rw[(tr.still hc hs).1]
   | false=>
     rcases hq (i+d) _ (by omega) (by omega) hc hs with hq | hq
     ·have s:=tr.syn hsyn hc;have hlt:=tr.up hsyn (j:=i) d (by omega);refine s.old b ?_ (by omega);rw[roOf,hq];exact kB hb hlt
     ·exact hq
structure Inv (gl:List Nat) (nt:Nat) (ops:Array Oper) (ms:List COp) (an:List Nat) (ro:Nat) (T:Nat->St) (V:Nat->AV) (ρ0:RM) (w0:World) (a0:Act)
  (listed:Array Bool) (ρ:RM) (tmS:Tr AV) (a:Act) (w:World) (m:Nat):Prop where
 sz:listed.size=ops.size
 clo:∀j i,listed[j]?=some true->i<ops.size->(an.getD j 0).testBit i=true->listed[i]?=some true
 tr:TR ρ nt tmS a
 val:∀t,aT tmS (.t t)=tv ms V (T 0).1 (λk=>listed[k]?=some true) ms.length t
 mval:m=0\/∃k c,m=k+1/\listed[k]?=some true/\ms[k]?=some c/\c.still=false
 mlt:∀k c,listed[k]?=some true->ms[k]?=some c->c.still=false->k<m
 hr:HR ρ (T m).2.1 w
 part:Part ρ0 (T 0).2.1 (T 0).2.2 (T ms.length).2.2 ro w0 ρ w
 dom:∀b l,ρ b=some l->b< (T 0).2.2\/(T ms.length).2.2<=b\/∃k,listed[k]?=some true/\(T k).2.2<=b/\b< (T (k+1)).2.2
 gl:GLok gl ρ
 dfr:a.defers=a0.defers
def Ky {x y:COp} (h:sL x y=true) (hx:x.still=false) (hy:y.still=false):x.q=true/\(y.q=true\/(x.lays=true/\y.isApp=true/\∃d,x.dst=some d/\Opd.t d∈y.ex)):=by
 unfold sL at h;obtain⟨x1,x2⟩:=Sd hx;obtain⟨y1,y2⟩:=Sd hy;have:x.loadAt=none:=by
  cases hl:x.loadAt with
  | none=>rfl
  | some z=>rw[jkz hl] at x2;cases x2
 have h2:=(kO h).2;simp only[x1,y1,this,oO,kD,aN] at h2;rcases h2 with⟨h3,h4⟩ | ⟨⟨⟨h3,h4⟩,h5⟩,h6⟩
 ·exact⟨h3,.inl h4⟩
 ·refine⟨h5,.inr ⟨h4,h3,?_⟩⟩;split at h6
  ·rename_i d hd;obtain⟨z,hz,hz2⟩:=Ga.1 h6;cases z with
   | c v=>cases hz2
   | t n=>
     have e:d=n:=by simpa[Mi] using hz2
     subst e;exact⟨_,hd,hz⟩
  ·cases h6
def Yf {x y:COp} (h:Ph x y=true):(∀d,x.dst=some d->d∉y.uses/\y.dst≠some d)/\∀d,y.dst=some d->d∉x.uses:=by
 unfold Ph at h;obtain⟨h1,h2⟩:=kO h;refine⟨λd hd=>?_,λd hd=>?_⟩
 ·rw[hd] at h1;simp only[aN] at h1;refine⟨by simpa using h1.1,λe=>?_⟩;rw[e] at h1;simpa[aL] using h1.2
 ·rw[hd] at h2;simpa using h2
def jcl {x y:COp} (h:sL x y=true):Ph x y=true:=(kO h).1
end
end Go.Vm
