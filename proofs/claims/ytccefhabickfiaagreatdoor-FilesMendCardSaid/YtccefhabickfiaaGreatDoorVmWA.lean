/- Parts of the proof. -/
import Derived.Test.YtccefhabickfiaaGreatDoorVmZN
set_option linter.unusedSimpArgs false
set_option linter.defProp false
set_option linter.unusedVariables false
namespace Go.Vm
namespace W
abbrev Fr:=List (Nat×AV)
def lk:Fr->Nat->Option AV
 | [],_=>none
 | (k,v)::r,n=>bif Nat.beq k n then some v else lk r n
def gv (t:Fr):Opd->Option AV
 | .t n=>lk t n
 | .c v=>some v
def FA (t:Fr) (tm:Tr AV):Prop:=∀n v,lk t n=some v->aT tm (.t n)=v
def mV:Option Nat->AV->Fr->Fr
 | none,_,t=>t
 | some d,v,t=>(d,v)::t
def jrj:Fr->Fr->Prop
 | [],_=>True
 | (n,v)::r,t=>lk t n=some v/\jrj r t
def Js:Nat->List AV->Fr
 | _,[]=>[]
 | n,a::l=>(n,a)::Js (n+1) l
def FA.gv {t:Fr} {tm:Tr AV} (h:FA t tm) {x:Opd} {v:AV} (hx:gv t x=some v):aT tm x=v:=by
 cases x with
 | t n=>exact h n v hx
 | c u=>exact kF hx
def FA.set {t:Fr} {tm:Tr AV} (h:FA t tm) (d:Option Nat) (v:AV):FA (mV d v t) (kY d v tm):=by
 cases d with
 | none=>exact h
 | some d=>
   intro n u hu;simp only[mV,lk,aL] at hu;simp only[kY,qQ];by_cases hn:n=d
   ·subst hn;simpa using hu
   ·rw[aD hn];have:decide (d=n)=false:=by simp;omega
    rw[this] at hu;exact h n u hu
def jl1:∀(as:List AV) (i n:Nat),lk (Js i as) n=if n<i then none else as[n-i]?
 | [],i,n=>by simp[Js,lk]
 | a::as,i,n=>by
   simp only[Js,lk,aL];by_cases h:i=n
   ·subst h;simp
   ·simp only[h,bM,aF];rw[jl1 as (i+1) n];by_cases h2:n<i
    ·rw[aK (by omega),aK h2]
    ·rw[aD (by omega),aD h2,show n-i=n-(i+1)+1 by omega];rfl
def FA.args (as:List AV):FA (Js 0 as) (put as 0 .e):=by
 intro n v hv;rw[jl1] at hv;simp only[Tk,cO,nN] at hv;obtain⟨hn,hv⟩:=jG.1 hv;simp[aT,mP,hn,hv]
inductive HB where
 | cells (l:List AV)
 | iter (s:List Nat) (pos:Nat)
 | mp (m:List (AV×AV))
def HB.At (H:Tr Blk) (b:Nat):HB->Prop
 | .cells l=>∃c,H.get b=some (.cells c l.length)/\∀i,i<l.length->c.get i=l[i]?
 | .iter s pos=>H.get b=some (.iter s pos)
 | .mp m=>H.get b=some (.mp m)
def HB.At.congr {H H':Tr Blk} {b:Nat} (e:H'.get b=H.get b):∀ {c:HB},c.At H b->c.At H' b
 | .cells l,⟨c,h1,h2⟩=>⟨c,e.trans h1,h2⟩
 | .iter _ _,h=>e.trans h
 | .mp _,h=>e.trans h
structure Ent where
 b:Nat
 w:Bool
 c:HB
structure Base where
 H0:Tr Blk
 nx0:Nat
variable {B:Base} {call:FuncId->List AV->Tr Blk->Nat->Nat->bN} {ro:Nat}
structure HK (B:Base) (ro:Nat) (O:List Ent) (H:Tr Blk) (nx:Nat):Prop where
 r0:B.nx0<=ro
 r1:rx ro<=nx
 base:∀b,b<B.nx0->H.get b=B.H0.get b
 ent:∀e∈O,e.b<nx/\(e.w=true->rx ro<=e.b)/\e.c.At H e.b
 nd:(O.map Ent.b).Nodup
inductive Has:List Ent->Nat->HB->Prop where
 | here {b w c O}:Has (⟨b,w,c⟩::O) b c
 | there {e b c O}:Has O b c->Has (e::O) b c
def Has.mem {O:List Ent} {b:Nat} {c:HB} (h:Has O b c):∃w,(⟨b,w,c⟩:Ent)∈O:=by
 induction h with
 | here=>exact⟨_,bY ..⟩
 | there _ ih=>obtain⟨w,h⟩:=ih;exact⟨w,bX _ h⟩
def Has.of_mem {O:List Ent} {b:Nat} {w:Bool} {c:HB} (h:(⟨b,w,c⟩:Ent)∈O):Has O b c:=by
 induction O with
 | nil=>cases h
 | cons e O ih=>
   rcases bL.1 h with h | h
   ·subst h;exact .here
   ·exact .there (ih h)
inductive Upd:List Ent->Nat->HB->HB->List Ent->Prop where
 | here {b c c' O}:Upd (⟨b,true,c⟩::O) b c c' (⟨b,true,c'⟩::O)
 | there {e b c c' O O'}:Upd O b c c' O'->Upd (e::O) b c c' (e::O')
inductive Del:List Ent->Nat->HB->List Ent->Prop where
 | here {b c O}:Del (⟨b,true,c⟩::O) b c O
 | there {e b c O O'}:Del O b c O'->Del (e::O) b c (e::O')
def uN (I:List (Nat×HB)) (O:List Ent):Prop:=∀e∈I,Has O e.1 e.2
section HKlaws
variable {O:List Ent} {H:Tr Blk} {nx:Nat}
def HK.at (h:HK B ro O H nx) {b:Nat} {c:HB} (hb:Has O b c):b<nx/\c.At H b:=by
 obtain⟨w,hm⟩:=hb.mem;have:=h.ent _ hm;exact⟨this.1,this.2.2⟩
def HK.sub (h:HK B ro O H nx) {O':List Ent} (hs:O'.Sublist O):HK B ro O' H nx:=
 ⟨h.r0,h.r1,h.base,λe he=>h.ent e (hs.subset he),h.nd.sublist (hs.map _)⟩
def HK.fresh (h:HK B ro O H nx):nx∉O.map Ent.b:=by
 intro hm;obtain⟨e,he,rfl⟩:=bU.1 hm;have:=(h.ent e he).1;omega
def jfi {l:List AV}:∃c,(H.set nx (.cells (put l 0 .e) l.length)).get nx=some (.cells c l.length)/\∀i,i<l.length->c.get i=l[i]?:=by
 refine⟨_,by rw[Tr.get_set,aK rfl],λi hi=>?_⟩;rw[mP,aK (by omega)];rfl
def HK.new (h:HK B ro O H nx) (k:Blk) (c:HB) (hc:c.At (H.set nx k) nx):HK B ro (⟨nx,true,c⟩::O) (H.set nx k) (nx+1):=by
 have h1:=h.r1;have h0:=h.r0;have h2:=jC h1;refine⟨h0,by omega,?_,?_,?_⟩
 ·intro b hb;rw[Tr.get_set,aD (by omega),h.base b hb]
 ·intro e he;rcases bL.1 he with rfl | he
  ·exact⟨by simp,λ_=>h1,hc⟩
  ·obtain⟨e1,e2,e3⟩:=h.ent e he;exact⟨by omega,e2,e3.congr (by rw[Tr.get_set,aD (by omega)])⟩
 ·simp only[dA,Lm];exact⟨h.fresh,h.nd⟩
def HK.cells (h:HK B ro O H nx) (l:List AV):HK B ro (⟨nx,true,.cells l⟩::O) (H.set nx (.cells (put l 0 .e) l.length)) (nx+1):=
 h.new _ _ jfi
def Upd.keep {O':List Ent} {b:Nat} {c c':HB} (u:Upd O b c c' O'):O'.map Ent.b=O.map Ent.b/\(⟨b,true,c⟩:Ent)∈O/\∀e∈O',e=⟨b,true,c'⟩\/e∈O:=by
 induction u with
 | here=>exact⟨rfl,bY ..,λe he=>by rcases bL.1 he with h | h;exact .inl h;exact .inr (bX _ h)⟩
 | there _ ih=>
   refine⟨by simp[ih.1],bX _ ih.2.1,λe he=>?_⟩;rcases bL.1 he with h | h
   ·exact .inr (h▸bY ..)
   ·rcases ih.2.2 e h with h | h
    ·exact .inl h
    ·exact .inr (bX _ h)
def j03 {e e':Ent} (hn:(O.map Ent.b).Nodup) (h:e∈O) (h':e'∈O) (hb:e.b=e'.b):e=e':=by
 induction O with
 | nil=>cases h
 | cons x O ih=>
   simp only[dA,Lm] at hn;rcases bL.1 h with h1 | h1<;>rcases bL.1 h' with h2 | h2
   ·rw[h1,h2]
   ·subst h1;exact absurd (bU.2 ⟨e',h2,hb.symm⟩) hn.1
   ·subst h2;exact absurd (bU.2 ⟨e,h1,hb⟩) hn.1
   ·exact ih hn.2 h1 h2
def Upd.mem {O':List Ent} {b:Nat} {c c':HB} (u:Upd O b c c' O'):(⟨b,true,c'⟩:Ent)∈O':=by
 induction u with
 | here=>exact bY ..
 | there _ ih=>exact bX _ ih
def HK.upd (h:HK B ro O H nx) {O':List Ent} {b:Nat} {c c':HB} (u:Upd O b c c' O') (k:Blk) (hc:c'.At (H.set b k) b):HK B ro O' (H.set b k) nx:=by
 obtain⟨k1,k2,k3⟩:=u.keep;obtain⟨b1,b2,b3⟩:=h.ent _ k2;have b2:=b2 rfl;simp only at b1 b2 b3;have h0:=h.r0;have h9:=jC b2;refine⟨h0,h.r1,?_,?_,by rw[k1];exact h.nd⟩
 ·intro x hx;rw[Tr.get_set,aD (by omega),h.base x hx]
 ·intro e he;by_cases eb:e.b=b
  ·have:e=⟨b,true,c'⟩:=by
    have hn:(O'.map Ent.b).Nodup:=by rw[k1];exact h.nd
    refine j03 hn he ?_ eb;exact u.mem
   subst this;exact⟨b1,λ_=>b2,hc⟩
  ·rcases k3 e he with h2 | h2
   ·subst h2;exact absurd rfl eb
   ·obtain⟨e1,e2,e3⟩:=h.ent e h2;exact⟨e1,e2,e3.congr (by rw[Tr.get_set,aD eb])⟩
def Del.keep {O':List Ent} {b:Nat} {c:HB} (u:Del O b c O'):O'.Sublist O/\(⟨b,true,c⟩:Ent)∈O:=by
 induction u with
 | here=>exact⟨List.sublist_cons_self ..,bY ..⟩
 | there _ ih=>exact⟨ih.1.cons_cons _,bX _ ih.2⟩
def Del.notin {O':List Ent} {b:Nat} {c:HB} (u:Del O b c O') (hn:(O.map Ent.b).Nodup):∀e∈O',e.b≠b:=by
 induction u with
 | here=>
   simp only[dA,Lm] at hn;intro e he eb;exact hn.1 (bU.2 ⟨e,he,eb⟩)
 | there u ih=>
   simp only[dA,Lm] at hn;intro e he;rcases bL.1 he with h | h
   ·subst h;intro eb;exact hn.1 (bU.2 ⟨_,u.keep.2,eb.symm⟩)
   ·exact ih hn.2 e h
def HK.del (h:HK B ro O H nx) {O':List Ent} {b:Nat} {c:HB} (u:Del O b c O'):HK B ro O' (H.del b) nx:=by
 obtain⟨k1,k2⟩:=u.keep;obtain⟨b1,b2,b3⟩:=h.ent _ k2;have b2:=b2 rfl;simp only at b1 b2 b3;have h0:=h.r0;have h9:=jC b2;refine⟨h0,h.r1,?_,?_,h.nd.sublist (k1.map _)⟩
 ·intro x hx;rw[Tr.get_del,aD (by omega),h.base x hx]
 ·intro e he;have hne:=u.notin h.nd e he;obtain⟨e1,e2,e3⟩:=h.ent e (k1.subset he);exact⟨e1,e2,e3.congr (by rw[Tr.get_del,aD hne])⟩
def eG (e:Ent):Ent:=⟨e.b,false,e.c⟩
def HK.quiet (h:HK B ro O H nx):HK B nx (O.map eG) H nx:=by
 have:=h.r0;have:=jC h.r1
 refine⟨by omega,Nat.max_le.2 ⟨aU _,this.2⟩,h.base,?_,?_⟩
 ·intro e he;obtain⟨e',he',rfl⟩:=bU.1 he;obtain⟨h1,h2,h3⟩:=h.ent e' he';refine⟨h1,λhw=>?_,h3⟩;cases hw
 ·rw[lO];exact h.nd
def Has.quiet {b:Nat} {c:HB} (h:Has O b c):Has (O.map eG) b c:=by
 induction h with
 | here=>exact .here
 | there _ ih=>exact .there ih
def HK.unquiet (h:HK B ro O H nx) {N:List Ent} {H':Tr Blk} {nx':Nat} (h':HK B nx (N++O.map eG) H' nx'):HK B ro (N++O) H' nx':=by
 have q0:=h.r0;have q1:=h.r1;have q2:=(jC h'.r1).1
 refine⟨q0,by omega,h'.base,?_,?_⟩
 ·intro e he;rcases aZ.1 he with he | he
  ·obtain⟨h1,h2,h3⟩:=h'.ent e (aZ.2 (.inl he));exact⟨h1,λhw=>by have:=(jC (h2 hw)).1;omega,h3⟩
  ·obtain⟨h1,_,h3⟩:=h'.ent (eG e) (aZ.2 (.inr (bU.2 ⟨e,he,rfl⟩)));exact⟨h1,(h.ent e he).2.1,h3⟩
 ·have:=h'.nd;rw[fY,lO] at this;rw[fY];exact this
end HKlaws
def SpecQ (B:Base) (call:FuncId->List AV->Tr Blk->Nat->Nat->bN) (f:FuncId) (as:List AV) (I:List (Nat×HB)) (R:AV->List Ent->Prop):Prop:=
 ∀ro O H nx,HK B ro O H nx->uN I O->∃v N H' nx',call f as H nx ro=some (v,H',nx')/\HK B ro (N++O) H' nx'/\R v N
def SpecQ.quiet {f:FuncId} {as:List AV} {I:List (Nat×HB)} {R:AV->List Ent->Prop} (h:SpecQ B call f as I R) {O:List Ent} {H:Tr Blk} {nx:Nat} (hk:HK B ro O H nx) (hs:uN I O):
  ∃v N H' nx',call f as H nx nx=some (v,H',nx')/\HK B ro (N++O) H' nx'/\R v N:=by
 obtain⟨v,N,H',nx',h1,h2,h3⟩:=h nx (O.map eG) H nx hk.quiet λe he=>(hs e he).quiet
 exact⟨v,N,H',nx',h1,hk.unquiet h2,h3⟩
def SpecQ.mono {f:FuncId} {as:List AV} {I:List (Nat×HB)} {R R':AV->List Ent->Prop} (h:SpecQ B call f as I R) (hr:∀v N,R v N->R' v N):SpecQ B call f as I R':=λro O H nx hk hs=>
 let ⟨v,N,H',nx',h1,h2,h3⟩:=h ro O H nx hk hs
 ⟨v,N,H',nx',h1,h2,hr _ _ h3⟩
def WO (B:Base) (call:FuncId->List AV->Tr Blk->Nat->Nat->bN) (ro:Nat) (ops:List COp) (t:Fr) (O:List Ent) (K:Fr->List Ent->Prop):Prop:=
 ∀tm H nx,FA t tm->HK B ro O H nx->∃tm' H' nx' t' O',jR call ro ops (tm,H,nx)=some (tm',H',nx')/\FA t' tm'/\HK B ro O' H' nx'/\K t' O'
def W (B:Base) (call:FuncId->List AV->Tr Blk->Nat->Nat->bN) (ro:Nat) (c:CC) (t:Fr) (O:List Ent) (Q:Ex->Fr->List Ent->Prop):Prop:=
 ∀tm H nx,FA t tm->HK B ro O H nx->∃e tm' H' nx' t' O',exec call ro c (tm,H,nx)=some (e,tm',H',nx')/\FA t' tm'/\HK B ro O' H' nx'/\Q e t' O'
section rules
variable {t:Fr} {O:List Ent} {K:Fr->List Ent->Prop} {Q:Ex->Fr->List Ent->Prop}
def Db {σ:Type} (T:σ->Fr) (G:σ->List Ent) (I:σ->Prop) (m:σ->Nat) (n:Nat) (Q:Ex->Fr->List Ent->Prop):Ex->Fr->List Ent->Prop
 | .normal=>λt O=>∃s,jrj (T s) t/\(G s).Sublist O/\I s/\m s<n
 | e=>Q e
end rules
def Aj (agg:Bool) (n o:Nat) (l:List AV):Option AV:=bif(o+n).ble l.length then nG agg ((l.drop o).take n) else none
inductive ResV (t:Fr) (O:List Ent):List CRes->List AV->Prop where
 | nil:ResV t O [] []
 | t {n v rs vs}:lk t n=some v->ResV t O rs vs->ResV t O (.t n::rs) (v::vs)
 | cell {a b o agg n l v rs vs}:lk t a=some (.ptr b o)->Has O b (.cells l)->Aj agg n o l=some v->ResV t O rs vs->ResV t O (.cell a agg n::rs) (v::vs)
def pack:List AV->AV
 | [v]=>v
 | vs=>.tup vs
def take_at {H:Tr Blk} {b:Nat} {c:Tr AV} {l:List AV} (h2:∀i,i<l.length->c.get i=l[i]?):∀(n o:Nat),o+n<=l.length->take c o n=some ((l.drop o).take n)
 | 0,o,_=>by simp[take]
 | n+1,o,hle=>by
   have h3:o<l.length:=by omega
   simp only[take,h2 o h3];rw[dK h3];simp only;rw[take_at (H:=H) (b:=b) h2 n (o+1) (by omega)];simp only;rw[mB h3,Fs]
end W
end Go.Vm
