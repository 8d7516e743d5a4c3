/-
  Piles: jfd of creases: when loops are like brackets.
  Piles: the law's own fits, kg5; ranks.
  Piles: crossing, by creases and by stacks.
  Piles: listed, between, kind, crosses.
  Piles: Check, and the law's own check.
  Piles: which piles are the same; the orders; Same.
-/
import Derived.Test.YtldgdgacdcenkaaGreatDoorPLa
set_option linter.unusedSimpArgs false
set_option linter.unusedVariables false
set_option linter.unusedSectionVars false
set_option linter.unnecessarySimpa false
namespace Go.Vm
namespace X
open W Go.Proofs.St
end X
end Go.Vm
namespace Go.Vm
namespace X
open W Go.Proofs.St
theorem juv {o:List Int} {g:Int} (h:∀k:Nat,k<o.length→o.getD k 0≠g):g∉o:=fun hm=>by
 obtain⟨k,hk,e⟩:=List.mem_iff_getElem.1 hm
 exact h k hk (by rw[List.getD,List.getElem?_eq_getElem hk];exact e)
def Rk (p r:List Int):Prop:=∀i:Nat,i<p.length→r.getD (p.getD i 0).toNat 0=i
theorem j7l {p:List Int} (h:p.Nodup) {i j:Nat} (hi:i<p.length) (hj:j<p.length) (e:p.getD i 0=p.getD j 0):i=j:=by
 rw[List.getD,List.getD,List.getElem?_eq_getElem hi,List.getElem?_eq_getElem hj] at e
 exact(List.getElem_inj h).1 e
theorem kcj {p r:List Int} {i:Nat} (hd:p.Nodup) {n:Nat} (hp:In n p) (hr:n≤r.length) (hi:i<p.length) (h:∀k:Nat,k<i→r.getD (p.getD k 0).toNat 0=k):
  ∀k:Nat,k<i+1→(r.set (p.getD i 0).toNat (i:Int)).getD (p.getD k 0).toNat 0=k:=fun k hk=>by
 have b1:=hp _ (jaw (L:=p) (i:=i) hi)
 have b2:=hp _ (jaw (L:=p) (i:=k) (by omega))
 rw[jfg (by omega)]
 by_cases e:k=i
 ·subst e;rw[if_pos rfl]
 ·rw[if_neg (fun e2=>e (j7l hd (by omega) hi (by omega))),h k (by omega)]
theorem j6q {p:List Int} {n:Nat} (hp:In n p) (hd:p.Nodup) (hn:n≤32) (hl:p.length≤10000):Ret (jet jak p) fun r=>Rk p r∧r.length=32:=by
 unfold jet
 refine jas (Inv:=fun x:Int×List Int=>0≤x.1∧x.1≤p.length∧x.2.length=32∧∀k:Nat,k<x.1.toNat→x.2.getD (p.getD k 0).toNat 0=k) (m:=fun x=>((p.length:Int)-x.1).toNat) ?_ _ _ ⟨by simp,by simp,rfl,by simp⟩ (by simp only[jak];omega)
 rintro ⟨i,r⟩ rec ⟨i1,i2,i3,i4⟩ ih
 simp only at i1 i2 i3 i4 ⊢
 refine jac (fun hlt=>?_) fun hge=>?_
 ·have hx:=hp _ (jaw (L:=p) (i:=i.toNat) (by omega))
  have:=kcj hd hp (by omega) (by omega) i4
  rw[show((i.toNat:Nat):Int)=i by omega,show i.toNat+1=(i+1).toNat by omega] at this
  exact jaa (jat (by omega) (by omega)) (jaa (jat (by omega) (by omega)) (jaa (jah (by omega) (by omega)) (ih _ ⟨by simp only;omega,by simp only;omega,by simp only[List.length_set];exact i3,this⟩ (by simp only;omega))))
 ·exact jal ⟨fun k hk=>i4 k (by omega),i3⟩
end X
end Go.Vm
namespace Go.Vm
namespace X
open W Go.Proofs.St
def Bet (f:Int→Int) (i x:Int):Prop:=min (f i) (f (i+1))<f x∧f x<max (f i) (f (i+1))
def jj1 (E:List Int) (n:Nat) (f:Int→Int):Prop:=∃i:Int,0≤i∧i+1<n∧((∃j:Int,0≤j∧j<n∧frm E j.toNat<E.getD (i.toNat+1) 0∧E.getD (i.toNat+1) 0<too E j.toNat∧Bet f i j)∨
 ∃j:Int,0≤j∧j+1<n∧j≠i∧E.getD (j.toNat+1) 0=E.getD (i.toNat+1) 0∧(E.getD (i.toNat+1) 0<E.getD j.toNat 0↔E.getD (i.toNat+1) 0<E.getD i.toNat 0)∧¬(Bet f i j↔Bet f i (j+1)))
section
variable {s:List Int×List Int} (h:jd3 s) {p:List Int} (hp:Ord s.1.length p) {t u:Int} (hu:u=t-1∨u=t)
include h hp hu
variable {f:Int→Int} (hf:p.Pairwise fun a b=>f a<f b)
include hf
end
end X
end Go.Vm
namespace Go.Vm
namespace X
open W Go.Proofs.St
theorem j0c {ι σ β:Type} {done:σ→Option β} {step:ι→(σ→Option β)→σ→Option β} {Q:β→Prop} (Inv:List ι→σ→Prop) (h0:∀x,Inv [] x→Ret (done x) Q)
  (h1:∀y l rec x,Inv (y::l) x→(∀x',Inv l x'→Ret (rec x') Q)→Ret (step y rec x) Q):∀l x,Inv l x→Ret (jxe done step l x) Q
 | [],x,h=>h0 x h
 | y::l,x,h=>h1 y l _ x h fun x' h'=>j0c Inv h0 h1 l x' h'
theorem jxw {p:List Int} (hl:p.length≤10000) (x:Int):jbk jak (p,x)=some (decide (x∈p)):=by
 apply Ret.eq
 unfold jbk jax
 refine jai (Q1:=fun r:Int=>(0≤r↔x∈p)) ?_ fun r h=>jal (by
  by_cases e:x∈p
  ·rw[decide_eq_true (h.2 e),decide_eq_true e]
  ·rw[decide_eq_false (fun h'=>e (h.1 h')),decide_eq_false e])
 refine jas (Inv:=fun i:Int=>0≤i∧i≤p.length∧∀k:Nat,(k:Int)<i→p.getD k 0≠x) (m:=fun i=>((p.length:Int)-i).toNat) ?_ _ _ ⟨by simp,by simp,fun k h=>by omega⟩ (by simp only[jak];omega)
 rintro i rec ⟨i1,i2,i3⟩ ih
 simp only
 refine jac (fun hlt=>?_) fun hge=>?_
 ·refine jaa (jat (by omega) (by omega)) (jac (fun e=>jal ⟨fun _=>by rw[e];exact jaw (by omega),fun _=>i1⟩) fun e=>jaa (jah (by omega) (by omega)) (ih _ ⟨by omega,by omega,fun k hk=>?_⟩ (by omega)))
  by_cases e':(k:Int)=i
  ·rw[show k=i.toNat by omega];exact fun h=>e h.symm
  ·exact i3 k (by omega)
 ·exact jal ⟨fun h=>absurd h (by omega),fun h=>absurd h (juv fun k hk=>i3 k (by omega))⟩
theorem jot:∀ {l p:List Int},l.Nodup→(∀x∈l,x∈p)→∃q,p.Perm (l++q)
 | [],p,_,_=>⟨p,List.Perm.refl _⟩
 | a::l,p,hn,h=>by
   obtain⟨h1,h2⟩:=List.nodup_cons.1 hn
   have ha:=h a List.mem_cons_self
   obtain⟨q,hq⟩:=jot (l:=l) (p:=p.erase a) h2 fun x hx=>(List.mem_erase_of_ne (fun e:x=a=>h1 (by rw[←e];exact hx))).2 (h x (List.mem_cons_of_mem _ hx))
   exact⟨q,(List.perm_cons_erase ha).trans (hq.cons a)⟩
theorem jy6 {n:Nat} {p:List Int} (hl:p.length=n) (h:∀i:Nat,i<n→(i:Int)∈p):Ord n p:=by
 obtain⟨q,hq⟩:=jot (jpf n) (p:=p) fun x hx=>by
  have:=jkk.1 hx
  have:=h x.toNat (by omega)
  rwa[show((x.toNat:Nat):Int)=x by omega] at this
 have:=hq.length_eq
 rw[List.length_append,js5] at this
 have:q=[]:=List.eq_nil_of_length_eq_zero (by omega)
 subst this
 rw[List.append_nil] at hq
 exact hq
open Classical in
noncomputable def lsE (s:List Int×List Int) (p:List Int):Int:=if ckS s≠0 then ckS s else if p.length≠s.1.length then 5 else if Ord s.1.length p then 0 else 1
theorem j31 {s:List Int×List Int} (h:s.2.length≤1000) {p:List Int} (hl:p.length≤10000):jc2 jak (s,p)=some ((s,if ckS s=0 then endsL s.1 else []),lsE s p):=by
 classical
 apply Ret.eq
 unfold jc2
 by_cases hv:ckS s=0
 ·have hv':=jpr.1 hv
  rw[show(s.1,s.2)=s from rfl,kf3 hv',if_pos hv]
  simp only[Option.bind_some]
  have e0:lsE s p=if p.length≠s.1.length then 5 else if Ord s.1.length p then 0 else 1:=by unfold lsE;rw[if_neg (fun h=>h hv)]
  rw[e0]
  refine jac (fun g=>absurd rfl g) fun _=>jac (fun g=>jaa (by simp[jbr]) (jal (by rw[if_pos (fun e=>g (by rw[e]))]))) fun g=>?_
  have hle:p.length=s.1.length:=by omega
  rw[if_neg (fun h=>h hle)]
  refine jas (Inv:=fun x:Int×(Unit×(Unit×Unit))=>0≤x.1∧x.1≤p.length∧∀k:Nat,(k:Int)<x.1→(k:Int)∈p) (m:=fun x=>((p.length:Int)-x.1).toNat) ?_ _ _ ⟨by simp,by simp,fun k h=>by simp at h;omega⟩ (by simp only[jak];omega)
  rintro ⟨i,_⟩ rec ⟨i1,i2,i3⟩ ih
  simp only at i1 i2 i3 ⊢
  refine jac (fun hlt=>?_) fun hge=>?_
  ·rw[jxw hl,Option.bind_some]
   by_cases hm:i∈p
   ·rw[decide_eq_true hm]
    refine jaa (jah (by omega) (by omega)) (ih _ ⟨by simp only;omega,by simp only;omega,fun k hk=>?_⟩ (by simp only;omega))
    simp only at hk
    by_cases e:(k:Int)=i
    ·rw[e];exact hm
    ·exact i3 k (by omega)
   ·rw[decide_eq_false hm]
    refine jaa (by simp[jbr]) (jal ?_)
    rw[if_neg]
    intro ho
    exact hm (ho.mem_iff.2 (jkk.2 ⟨i1,by omega⟩))
  ·refine jaa (by simp[jbr]) (jal ?_)
   rw[if_pos (jy6 hle fun k hk=>i3 k (by omega))]
 ·rw[show(s.1,s.2)=s from rfl,kcx h hv,if_neg hv]
  simp only[Option.bind_some]
  refine jac (fun _=>jaa (by simp[jbr]) (jal (by unfold lsE;rw[if_pos hv]))) fun g=>absurd hv g
theorem j98 {s:List Int×List Int} (h:jd3 s) {p:List Int} (hp:Ord s.1.length p):lsE s p=0:=by
 unfold lsE
 rw[if_neg (fun g=>g (jpr.2 h)),if_neg (fun g=>g hp.len),if_pos hp]
theorem j03 {s:List Int×List Int} (h:jd3 s) {p:List Int} (hp:Ord s.1.length p):jc2 jak (s,p)=some ((s,endsL s.1),0):=by
 have h1:=h.1
 have h2:=h.2.1
 rw[j31 (by omega) (by rw[hp.len];omega),if_pos (jpr.2 h),j98 h hp]
theorem j1t {r:List Int} {i:Int} (h0:0≤i) (h1:i+1<32) (v:Int):jbq jak (r,(i,v))=some (decide (min (r.getD i.toNat 0) (r.getD (i+1).toNat 0)<v∧v<max (r.getD i.toNat 0) (r.getD (i+1).toNat 0))):=by
 unfold jbq
 simp only
 rw[ja8 (jat h0 (by omega)),ja8 (jah (by omega) (by omega)),ja8 (jat (by omega) (by omega)),ja8 (jat h0 (by omega)),ja8 (jah (by omega) (by omega)),ja8 (jat (by omega) (by omega))]
 by_cases g:min (r.getD i.toNat 0) (r.getD (i+1).toNat 0)<v
 ·rw[decide_eq_true g,cond_true]
  congr 1
  rw[Bool.eq_iff_iff,decide_eq_true_eq,decide_eq_true_eq]
  exact⟨fun h=>⟨g,h⟩,fun h=>h.2⟩
 ·rw[decide_eq_false g,cond_false]
  congr 1
  symm
  exact decide_eq_false fun h=>g h.1
def jpd (f:Int→Int) (i:Int):Int:=if f (i+i%2)<f (i+1-i%2) then 2 else 1
theorem kaf {r:List Int} {i:Int} (h0:0≤i) (h1:i+1<32):jeu jak (r,i)=some (jpd (fun x=>r.getD x.toNat 0) i):=by
 unfold jeu jpd
 simp only
 rw[ja8 (jah (by omega) (by omega)),ja8 (by rw[Bool.and_eq_true];exact⟨decide_eq_true (by omega),rfl⟩),ja8 (jah (by omega) (by omega)),ja8 (jat (by omega) (by omega)),ja8 (jah (by omega) (by omega)),ja8 (jah (by omega) (by omega)),ja8 (jah (by omega) (by omega)),ja8 (jat (by omega) (by omega))]
 rw[show 2*i+1-(i+1-i%2)=i+i%2 by omega]
 by_cases g:r.getD (i+i%2).toNat 0<r.getD (i+1-i%2).toNat 0
 ·rw[decide_eq_true g,cond_true,if_pos g]
 ·rw[decide_eq_false g,cond_false,if_neg g]
def j84 (E:List Int) (n:Nat) (f:Int→Int) (i:Int):Prop:=(∃j:Int,0≤j∧j<n∧frm E j.toNat<E.getD (i.toNat+1) 0∧E.getD (i.toNat+1) 0<too E j.toNat∧Bet f i j)∨
 ∃j:Int,0≤j∧j+1<n∧j≠i∧E.getD (j.toNat+1) 0=E.getD (i.toNat+1) 0∧(E.getD (i.toNat+1) 0<E.getD j.toNat 0↔E.getD (i.toNat+1) 0<E.getD i.toNat 0)∧¬(Bet f i j↔Bet f i (j+1))
theorem jy7 {k:Nat} {E:List Int} {t:Int} {rt:Bool} {x:Int}:x∈(jsp k E t rt).map (fun(i:Nat)=>(i:Int))↔0≤x∧x<k∧E.getD (x.toNat+1) 0=t∧decide (t<E.getD x.toNat 0)=rt:=by
 simp only[jsp,List.mem_map,List.mem_filter,List.mem_range,jmh,Bool.and_eq_true,decide_eq_true_eq,beq_iff_eq]
 constructor
 ·rintro ⟨a,⟨h1,h2,h3⟩,rfl⟩
  rw[Int.toNat_natCast]
  exact⟨by omega,by omega,h2,h3⟩
 ·rintro ⟨h1,h2,h3,h4⟩
  exact⟨x.toNat,⟨by omega,h3,h4⟩,by omega⟩
instance (f:Int→Int) (i x:Int):Decidable (Bet f i x):=by unfold Bet;infer_instance
theorem j1j {s:List Int×List Int} (h:jd3 s) {r:List Int} (hr:r.length=32):Ret (ja4 jak ((s,endsL s.1),r)) fun b=>(b=true↔jj1 (endsL s.1) s.1.length fun x=>r.getD x.toNat 0):=by
 have hel:=j4y s.1
 have hn:=h.1
 have hk:=h.2.1
 generalize hf:(fun x:Int=>r.getD x.toNat 0)=f
 have hfx:∀x:Int,r.getD x.toNat 0=f x:=fun x=>by rw[←hf]
 unfold ja4
 refine jas (Inv:=fun x:Int×(Bool×Unit)=>0≤x.1∧x.1≤s.2.length∧x.2.1=false∧∀i:Int,0≤i→i<x.1→¬j84 (endsL s.1) s.1.length f i) (m:=fun x=>((s.2.length:Int)-x.1).toNat) ?_ _ _ ⟨by simp,by simp,rfl,fun i a b=>by simp at b;omega⟩ (by simp only[jak];omega)
 rintro ⟨i,bad,_⟩ rec ⟨i1,i2,i3,i4⟩ ih
 simp only at i1 i2 i3 i4 ⊢
 subst i3
 refine jac (fun hlt=>?_) fun hge=>?_
 ·have ei:(i+1).toNat=i.toNat+1:=by omega
  have found:j84 (endsL s.1) s.1.length f i→Ret (some true) fun b=>(b=true↔jj1 (endsL s.1) s.1.length f):=fun hc=>jal ⟨fun _=>⟨i,i1,by omega,hc⟩,fun _=>rfl⟩
  refine jaa (jah (by omega) (by omega)) (jaa (jat (by omega) (by omega)) ?_)
  rw[ei]
  have bt:∀x:Int,jbq jak (r,(i,f x))=some (decide (Bet f i x)):=fun x=>by
   rw[j1t i1 (by omega)]
   rw[hfx,hfx]
   rfl
  refine jas (Inv:=fun x:Int×(Bool×Unit)=>0≤x.1∧x.1≤s.1.length∧x.2.1=false∧∀j:Int,0≤j→j<x.1→¬(frm (endsL s.1) j.toNat< (endsL s.1).getD (i.toNat+1) 0∧(endsL s.1).getD (i.toNat+1) 0<too (endsL s.1) j.toNat∧Bet f i j)) (m:=fun x=>((s.1.length:Int)-x.1).toNat) ?_ _ _ ⟨by simp,by simp,rfl,fun i a b=>by simp at b;omega⟩ (by simp only[jak];omega)
  rintro ⟨j,bad,_⟩ rec2 ⟨j1,j2,j3,j4⟩ ih2
  simp only at j1 j2 j3 j4 ⊢
  subst j3
  refine jac (fun hlt2=>?_) fun hge2=>?_
  ·have nxt:¬(frm (endsL s.1) j.toNat< (endsL s.1).getD (i.toNat+1) 0∧(endsL s.1).getD (i.toNat+1) 0<too (endsL s.1) j.toNat∧Bet f i j)→Ret (chk (jap (j+1)) (rec2 (j+1,(false,())))) fun b=>(b=true↔jj1 (endsL s.1) s.1.length f):=fun hc=>by
    refine jaa (jah (by omega) (by omega)) (ih2 _ ⟨by simp only;omega,by simp only;omega,rfl,fun j' a b=>?_⟩ (by simp only;omega))
    simp only at b
    by_cases e:j'=j
    ·subst e;exact hc
    ·exact j4 j' a (by omega)
   rw[kay j1 (by omega) (by omega),Option.bind_some]
   refine jac (fun g1=>?_) fun g1=>nxt fun hh=>g1 hh.1
   rw[kfu j1 (by omega) (by omega),Option.bind_some]
   refine jac (fun g2=>?_) fun g2=>nxt fun hh=>g2 hh.2.1
   refine jaa (jat (by omega) (by omega)) ?_
   rw[hfx,bt,Option.bind_some]
   refine jac (fun g3=>found (.inl ⟨j,j1,by omega,g1,g2,g3⟩)) fun g3=>nxt fun hh=>g3 hh.2.2
  ·refine jaa (jat (by omega) (by omega)) ?_
   have hla:¬ ∃j:Int,0≤j∧j<s.1.length∧frm (endsL s.1) j.toNat< (endsL s.1).getD (i.toNat+1) 0∧(endsL s.1).getD (i.toNat+1) 0<too (endsL s.1) j.toNat∧Bet f i j:=fun⟨j',a,b,c⟩=>j4 j' a (by omega) c
   unfold jo7
   simp only
   rw[show(Nat.blt (List.length (α:=Int) s.2) (List.length (α:=Int) (endsL s.1))&&Nat.ble (List.length (α:=Int) (endsL s.1)) 1000000)=true by
    simp[Nat.blt_eq]
    omega,cond_true,Option.bind_some]
   refine j0c (Inv:=fun(l:List Int) (x:Bool×Unit)=>x.1=false∧(∀y∈l,0≤y∧y<s.2.length∧(endsL s.1).getD (y.toNat+1) 0=(endsL s.1).getD (i.toNat+1) 0∧decide ((endsL s.1).getD (i.toNat+1) 0< (endsL s.1).getD y.toNat 0)=decide ((endsL s.1).getD (i.toNat+1) 0< (endsL s.1).getD i.toNat 0))∧
    ∀j:Int,0≤j→j<s.2.length→j≠i→(endsL s.1).getD (j.toNat+1) 0=(endsL s.1).getD (i.toNat+1) 0→decide ((endsL s.1).getD (i.toNat+1) 0< (endsL s.1).getD j.toNat 0)=decide ((endsL s.1).getD (i.toNat+1) 0< (endsL s.1).getD i.toNat 0)→(Bet f i j↔Bet f i (j+1))∨j∈l) ?_ ?_ _ _ ⟨rfl,fun y hy=>jy7.1 hy,fun j a b c d e=>.inr (jy7.2 ⟨a,b,d,e⟩)⟩
   ·rintro ⟨bad,_⟩ ⟨k1,_,k2⟩
    simp only at k1
    subst k1
    refine jaa (jah (by omega) (by omega)) (ih _ ⟨by simp only;omega,by simp only;omega,rfl,fun i' a b=>?_⟩ (by simp only;omega))
    simp only at b
    by_cases e:i'=i
    ·subst e
     rintro (hh | ⟨j,a1,a2,a3,a4,a5,a6⟩)
     ·exact hla hh
     ·rcases k2 j a1 (by omega) a3 a4 (by rw[decide_eq_decide];exact a5) with hh | hh
      ·exact a6 hh
      ·cases hh
    ·exact i4 i' a (by omega)
   ·rintro y l rec3 ⟨bad,_⟩ ⟨k1,k2,k3⟩ ih3
    simp only at k1
    subst k1
    obtain⟨y0,y1,y2,y3⟩:=k2 y List.mem_cons_self
    have nxt:(y≠i→(Bet f i y↔Bet f i (y+1)))→Ret (rec3 (false,())) fun b=>(b=true↔jj1 (endsL s.1) s.1.length f):=fun hc=>by
     refine ih3 _ ⟨rfl,fun z hz=>k2 z (List.mem_cons_of_mem _ hz),fun j a b c d e=>?_⟩
     rcases k3 j a b c d e with hh | hh
     ·exact .inl hh
     ·rcases List.mem_cons.1 hh with rfl | hh
      ·exact .inl (hc c)
      ·exact .inr hh
    refine jac (fun g=>?_) fun g=>nxt fun hh=>absurd hh g
    refine jaa (jat (by omega) (by omega)) ?_
    rw[hfx,bt,Option.bind_some]
    refine jaa (jah (by omega) (by omega)) (jaa (jat (by omega) (by omega)) ?_)
    rw[hfx,bt,Option.bind_some]
    by_cases e:Bet f i y↔Bet f i (y+1)
    ·rw[show(decide (Bet f i y)==decide (Bet f i (y+1)))=true by rw[beq_iff_eq,decide_eq_decide];exact e]
     exact nxt fun _=>e
    ·rw[show(decide (Bet f i y)==decide (Bet f i (y+1)))=false by rw[beq_eq_false_iff_ne,ne_eq,decide_eq_decide];exact e]
     exact found (.inr ⟨y,y0,by omega,g,y2,by rw[←decide_eq_decide];exact y3,e⟩)
 ·refine jal ⟨fun hh=>(by cases hh),?_⟩
  rintro ⟨j,a,b,c⟩
  exact absurd c (i4 j a (by omega))
end X
end Go.Vm
namespace Go.Vm
namespace X
open W Go.Proofs.St
def rkF (p:List Int) (x:Int):Int:=(p.idxOf x:Nat)
theorem jv2 {p:List Int} {x:Int} (h:x∈p):(rkF p x).toNat<p.length∧p.getD (rkF p x).toNat 0=x∧0≤rkF p x:=by
 have h1:=List.idxOf_lt_length_of_mem h
 unfold rkF
 refine⟨by omega,?_,by omega⟩
 rw[Int.toNat_natCast,List.getD,List.getElem?_eq_getElem h1,Option.getD_some,List.getElem_idxOf h1]
theorem kco {p:List Int} (h:p.Nodup):p.Pairwise fun a b=>rkF p a<rkF p b:=by
 rw[List.pairwise_iff_getElem]
 intro i j hi hj hij
 simp only[rkF,h.idxOf_getElem]
 omega
theorem Rk.rk {p r:List Int} (h:Rk p r) (hn:p.Nodup) {x:Int} (hx:x∈p):r.getD x.toNat 0=rkF p x:=by
 obtain⟨h1,h2,h3⟩:=jv2 hx
 have:=h _ h1
 rw[h2] at this
 rw[this];omega
theorem jsc {p:List Int} {x y:Int} (hx:x∈p) (hy:y∈p) (h:rkF p x=rkF p y):x=y:=by
 rw[←(jv2 hx).2.1,h,(jv2 hy).2.1]
theorem jp7 {f g:Int→Int} {n:Nat} (hfg:∀x:Int,0≤x→x<n→f x=g x) {i x:Int} (h0:0≤i) (h1:i+1<n) (hx:0≤x) (hx':x<n):Bet f i x↔Bet g i x:=by
 unfold Bet
 rw[hfg i h0 (by omega),hfg (i+1) (by omega) h1,hfg x hx hx']
theorem jnb {E:List Int} {n:Nat} {f g:Int→Int} (hfg:∀x:Int,0≤x→x<n→f x=g x):jj1 E n f→jj1 E n g:=by
 rintro ⟨i,h0,h1,⟨j,a1,a2,a3,a4,a5⟩ | ⟨j,a1,a2,a3,a4,a5,a6⟩⟩
 ·exact⟨i,h0,h1,.inl ⟨j,a1,a2,a3,a4,(jp7 hfg h0 h1 a1 a2).1 a5⟩⟩
 ·exact⟨i,h0,h1,.inr ⟨j,a1,a2,a3,a4,a5,fun h=>a6 (by rw[jp7 hfg h0 h1 a1 (by omega),jp7 hfg h0 h1 (by omega) (by omega)];exact h)⟩⟩
theorem Ord.memI {n:Nat} {p:List Int} (h:Ord n p) {x:Int} (h0:0≤x) (h1:x<n):x∈p:=h.mem_iff.2 (jkk.2 ⟨h0,h1⟩)
theorem Rk.eqF {p r:List Int} {n:Nat} (h:Rk p r) (hp:Ord n p):∀x:Int,0≤x→x<n→r.getD x.toNat 0=rkF p x:=fun x h0 h1=>h.rk hp.nodup (hp.memI h0 h1)
def jt1 (K:List Int) (p:List Int):Prop:=∃i:Int,0≤i∧i<K.length∧K.getD i.toNat 0≠3∧K.getD i.toNat 0≠jpd (rkF p) i
open Classical in
noncomputable def j71 (s:List Int×List Int) (p:List Int):Int:=if jj1 (endsL s.1) s.1.length (rkF p) then 12 else if jt1 s.2 p then 13 else 0
theorem jxv {s:List Int×List Int} (h:jd3 s) {p r:List Int} (hp:Ord s.1.length p) (hr:r.length=32) (hk:Rk p r):Ret (ja4 jak ((s,endsL s.1),r)) fun b=>(b=true↔jj1 (endsL s.1) s.1.length (rkF p)):=by
 refine(j1j h hr).mono fun b hb=>hb.trans ⟨jnb (hk.eqF hp),jnb fun x h0 h1=>(hk.eqF hp x h0 h1).symm⟩
theorem jxh {f g:Int→Int} {i:Int} (h1:f (i+i%2)=g (i+i%2)) (h2:f (i+1-i%2)=g (i+1-i%2)):jpd f i=jpd g i:=by
 unfold jpd
 rw[h1,h2]
theorem j7c {s:List Int×List Int} (h:jd3 s) {p r:List Int} (hp:Ord s.1.length p) (hk:Rk p r) {i:Int} (h0:0≤i) (h1:i<s.2.length):jeu jak (r,i)=some (jpd (rkF p) i):=by
 have:=h.1
 have:=h.2.1
 rw[kaf h0 (by omega)]
 rw[jxh (f:=fun x=>r.getD x.toNat 0) (g:=rkF p) (hk.eqF hp _ (by omega) (by omega)) (hk.eqF hp _ (by omega) (by omega))]
theorem j0k {s:List Int×List Int} (h:jd3 s) {p:List Int} (hp:Ord s.1.length p):jca jak (s,p)=some (j71 s p):=by
 classical
 apply Ret.eq
 have hn:=h.1
 have hk2:=h.2.1
 have hl:=hp.len
 unfold jca
 rw[show((s.1,s.2),p)=(s,p) from rfl,j03 h hp,Option.bind_some]
 refine jac (fun g=>absurd rfl g) fun _=>?_
 refine jai (j6q (p:=p) hp.in hp.nodup hn (by omega)) fun r ⟨hr,hr2⟩=>?_
 refine jai (jxv h hp hr2 hr) fun b hb=>?_
 unfold j71
 cases b with
 | true=>exact jal (by rw[if_pos (hb.1 rfl)])
 | false=>
   rw[if_neg (fun h=>by cases hb.2 h)]
   refine jas (Inv:=fun i:Int=>0≤i∧i≤s.2.length∧∀j:Int,0≤j→j<i→¬(s.2.getD j.toNat 0≠3∧s.2.getD j.toNat 0≠jpd (rkF p) j)) (m:=fun i=>((s.2.length:Int)-i).toNat) ?_ _ _ ⟨by simp,by simp,fun j a b=>by omega⟩ (by simp only[jak];omega)
   rintro i rec ⟨i1,i2,i3⟩ ih
   simp only
   refine jac (fun hlt=>?_) fun hge=>?_
   ·have nxt:¬(s.2.getD i.toNat 0≠3∧s.2.getD i.toNat 0≠jpd (rkF p) i)→Ret (chk (jap (i+1)) (rec (i+1))) fun x=>x=if jt1 s.2 p then 13 else 0:=fun hc=>by
     refine jaa (jah (by omega) (by omega)) (ih _ ⟨by omega,by omega,fun j a b=>?_⟩ (by omega))
     by_cases e:j=i
     ·subst e;exact hc
     ·exact i3 j a (by omega)
    refine jaa (jat (by omega) (by omega)) (jac (fun g=>?_) fun g=>nxt fun hh=>g hh.1)
    rw[j7c h hp hr i1 hlt,Option.bind_some]
    exact jac (fun g2=>jal (by rw[if_pos ⟨i,i1,hlt,g,g2⟩])) fun g2=>nxt fun hh=>g2 hh.2
   ·exact jal (by rw[if_neg];rintro ⟨j,a,b,c⟩;exact i3 j a (by omega) c)
end X
end Go.Vm
namespace Go.Vm
namespace X
open W Go.Proofs.St
theorem j76 {a:List Int×List Int} (h1:bytes a.1) (h2:bytes a.2):Ret (jdz jak a) fun s=>OfQ s∧s.1.length≤max 1 a.1.length:=by
 unfold jdz
 have fin:∀x:Int×(List Int×List Int),(0≤x.1∧x.1≤12∧x.1≤((a.1.length:Nat):Int)∧x.2.1.length=x.1.toNat∧x.2.2.length=x.1.toNat-1∧(∀y∈x.2.1,1≤y∧y≤8)∧∀y∈x.2.2,1≤y∧y≤3)→
   Ret (bif(decide (((x.2.1.length:Nat):Int)=0)) then(some ([1],x.2.2)) else(some (x.2.1,x.2.2))) fun s=>OfQ s∧s.1.length≤max 1 a.1.length:=by
  intro x ⟨i1,i2,i7,i3,i4,i5,i6⟩
  refine jac (fun h=>jal ⟨⟨by simp,by simp,?_,by simp,i6⟩,by simp only[List.length_singleton];omega⟩) fun h=>jal ⟨⟨?_,?_,?_,i5,i6⟩,by simp only;omega⟩
  ·simp only[List.length_singleton];omega
  all_goals (simp only;omega)
 refine jas (Inv:=fun x=>0≤x.1∧x.1≤12∧x.1≤((a.1.length:Nat):Int)∧x.2.1.length=x.1.toNat∧x.2.2.length=x.1.toNat-1∧(∀y∈x.2.1,1≤y∧y≤8)∧∀y∈x.2.2,1≤y∧y≤3) (m:=fun x=>(12-x.1).toNat) ?_ _ _ ⟨by simp,by simp,by simp,by simp,by simp,by simp,by simp⟩ (by simp[jak])
 intro x rec hi ih
 have hI:=hi
 obtain⟨i1,i2,i7,i3,i4,i5,i6⟩:=hi
 refine jac (fun hlt=>?_) fun _=>fin x hI
 refine jac (fun h12=>?_) fun _=>fin x hI
 have hb:=h1 _ (jaw (i:=x.1.toNat) (by omega))
 refine jaa (jat i1 hlt) ?_
 refine jaa (by rw[Bool.and_eq_true];exact⟨decide_eq_true (by omega),rfl⟩) ?_
 refine jaa (jah (by omega) (by omega)) ?_
 refine jaa (jah (by omega) (by omega)) ?_
 refine jaa (jbg (by omega)) ?_
 have e5:=ji7 i5 (a:=1+ (a.1.getD x.1.toNat 0)%8) (P:=fun y=>1≤y∧y≤8) (by omega)
 refine jac (fun hpos=>?_) fun hz=>?_
 ·refine jac (fun hk=>?_) fun hk=>?_
  ·refine jaa (jah (by omega) (by omega)) ?_
   refine jaa (jat (by omega) (by omega)) ?_
   have hb2:=h2 _ (jaw (L:=a.2) (i:=(x.1-1).toNat) (by omega))
   refine jaa (by rw[Bool.and_eq_true];exact⟨decide_eq_true (by omega),rfl⟩) ?_
   refine jaa (jbg (by omega)) ?_
   refine jaa (jah (by omega) (by omega)) ?_
   refine ih _ ⟨by simp only;omega,by simp only;omega,by simp only;omega,by simp only[List.length_append,List.length_singleton];omega,by simp only[List.length_append,List.length_singleton];omega,e5,ji7 i6 ?_⟩ (by simp only;omega)
   rw[jr4 (by omega) (by omega)];omega
  ·refine jaa (jbg (by omega)) ?_
   refine jaa (jah (by omega) (by omega)) ?_
   exact ih _ ⟨by simp only;omega,by simp only;omega,by simp only;omega,by simp only[List.length_append,List.length_singleton];omega,by simp only[List.length_append,List.length_singleton];omega,e5,ji7 i6 (by omega)⟩ (by simp only;omega)
 ·refine jaa (jah (by omega) (by omega)) ?_
  exact ih _ ⟨by simp only;omega,by simp only;omega,by simp only;omega,by simp only[List.length_append,List.length_singleton];omega,by simp only;omega,e5,i6⟩ (by simp only;omega)
def jbc:Nat→List (List Int)
 | 0=>[[]]
 | k+1=>(jbc k).flatMap fun l=>(List.range (l.length+1)).map fun a=>(l.take a++[(k:Int)])++l.drop a
theorem jfr:∀ {n:Nat} {l:List Int},l∈jbc n→Ord n l
 | 0,l,h=>by simp[jbc] at h;subst h;exact List.Perm.refl _
 | k+1,l,h=>by
   obtain⟨m,hm,h⟩:=List.mem_flatMap.1 h
   obtain⟨a,ha,rfl⟩:=List.mem_map.1 h
   have:=jfr hm
   unfold Ord
   rw[js4]
   refine List.Perm.trans ?_ (this.append_right [(k:Int)])
   rw[List.append_assoc]
   refine List.Perm.trans (List.Perm.append_left _ List.perm_append_comm) ?_
   rw[←List.append_assoc,List.take_append_drop]
theorem jov:∀ {n:Nat} {l:List Int},Ord n l→l∈jbc n
 | 0,l,h=>by
   have:=h.len
   rw[List.eq_nil_of_length_eq_zero this];simp[jbc]
 | k+1,l,h=>by
   obtain⟨A,B,rfl⟩:=List.append_of_mem (h.mem (i:=k) (by omega))
   have ho:Ord k (A++B):=by
    unfold Ord at h ⊢
    rw[js4] at h
    have h2:((k:Int)::(A++B)).Perm ((k:Int)::idL k):=List.perm_middle.symm.trans (h.trans (List.perm_append_comm (l₁:=idL k) (l₂:=[(k:Int)])))
    exact(List.perm_cons _).1 h2
   refine List.mem_flatMap.2 ⟨A++B,jov ho,List.mem_map.2 ⟨A.length,List.mem_range.2 (by rw[List.length_append];omega),?_⟩⟩
   simp
theorem jlo {n:Nat} {f:List Int→List (List Int)}:∀ {L:List (List Int)},(∀l∈L,(f l).length=n)→(L.flatMap f).length=L.length*n
 | [],_=>by simp
 | a::L,h=>by
   rw[List.flatMap_cons,List.length_append,jlo fun l hl=>h l (List.mem_cons_of_mem _ hl),h a List.mem_cons_self,List.length_cons,Nat.add_mul]
   omega
theorem jds {k:Nat}:(jbc (k+1)).length=(jbc k).length* (k+1):=
 jlo fun l hl=>by rw[List.length_map,List.length_range,(jfr hl).len]
theorem jra {k:Nat} (h:k≤5):(jbc k).length≤120:=by
 have h0:(jbc 0).length=1:=rfl
 have h1:(jbc 1).length=1:=by rw[jds (k:=0),h0]
 have h2:(jbc 2).length=2:=by rw[jds (k:=1),h1]
 have h3:(jbc 3).length=6:=by rw[jds (k:=2),h2]
 have h4:(jbc 4).length=24:=by rw[jds (k:=3),h3]
 have h5:(jbc 5).length=120:=by rw[jds (k:=4),h4]
 rcases(by omega:k=0∨k=1∨k=2∨k=3∨k=4∨k=5) with rfl | rfl | rfl | rfl | rfl | rfl<;>omega
end X
end Go.Vm
