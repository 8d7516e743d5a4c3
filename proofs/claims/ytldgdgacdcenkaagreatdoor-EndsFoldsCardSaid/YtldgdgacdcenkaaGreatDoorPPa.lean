/-
  Piles: words of creases: when loops are like brackets.
  Piles: the law's own fits, side; ranks.
  Piles: crossing, by creases and by stacks.
  Piles: listed, between, kind, crosses.
  Piles: Check, and the law's own check.
  Piles: which piles are the same; the orders; Same.
-/
import Derived.Test.YtldgdgacdcenkaaGreatDoorPLa
set_option linter.unusedSimpArgs false
set_option linter.unusedVariables false
set_option linter.unusedSectionVars false
set_option linter.unnecessarySimpa false
namespace Go.Vm
namespace X
open W Go.Proofs.St
end X
end Go.Vm
namespace Go.Vm
namespace X
open W Go.Proofs.St
theorem not_mem_getD {o:List Int} {g:Int} (h:∀k:Nat,k<o.length→o.getD k 0≠g):g∉o:=fun hm=>by
 obtain⟨k,hk,e⟩:=List.mem_iff_getElem.1 hm
 exact h k hk (by rw[List.getD,List.getElem?_eq_getElem hk];exact e)
def Rk (p r:List Int):Prop:=∀i:Nat,i<p.length→r.getD (p.getD i 0).toNat 0=i
theorem getD_inj {p:List Int} (h:p.Nodup) {i j:Nat} (hi:i<p.length) (hj:j<p.length) (e:p.getD i 0=p.getD j 0):i=j:=by
 rw[List.getD,List.getD,List.getElem?_eq_getElem hi,List.getElem?_eq_getElem hj] at e
 exact(List.getElem_inj h).1 e
theorem set_rk {p r:List Int} {i:Nat} (hd:p.Nodup) {n:Nat} (hp:In n p) (hr:n≤r.length) (hi:i<p.length) (h:∀k:Nat,k<i→r.getD (p.getD k 0).toNat 0=k):
  ∀k:Nat,k<i+1→(r.set (p.getD i 0).toNat (i:Int)).getD (p.getD k 0).toNat 0=k:=fun k hk=>by
 have b1:=hp _ (getD_mem (L:=p) (i:=i) hi)
 have b2:=hp _ (getD_mem (L:=p) (i:=k) (by omega))
 rw[getD_set (by omega)]
 by_cases e:k=i
 ·subst e;rw[if_pos rfl]
 ·rw[if_neg (fun e2=>e (getD_inj hd (by omega) hi (by omega))),h k (by omega)]
theorem ranks_ok {p:List Int} {n:Nat} (hp:In n p) (hd:p.Nodup) (hn:n≤32) (hl:p.length≤10000):Ret (piles_ranks fuel p) fun r=>Rk p r∧r.length=32:=by
 unfold piles_ranks
 refine Ret_loop (Inv:=fun x:Int×List Int=>0≤x.1∧x.1≤p.length∧x.2.length=32∧∀k:Nat,k<x.1.toNat→x.2.getD (p.getD k 0).toNat 0=k) (m:=fun x=>((p.length:Int)-x.1).toNat) ?_ _ _ ⟨by simp,by simp,rfl,by simp⟩ (by simp only[fuel];omega)
 rintro ⟨i,r⟩ rec ⟨i1,i2,i3,i4⟩ ih
 simp only at i1 i2 i3 i4 ⊢
 refine Ret_dec (fun hlt=>?_) fun hge=>?_
 ·have hx:=hp _ (getD_mem (L:=p) (i:=i.toNat) (by omega))
  have:=set_rk hd hp (by omega) (by omega) i4
  rw[show((i.toNat:Nat):Int)=i by omega,show i.toNat+1=(i+1).toNat by omega] at this
  exact Ret_chk (inb_t (by omega) (by omega)) (Ret_chk (inb_t (by omega) (by omega)) (Ret_chk (i64b_t (by omega) (by omega)) (ih _ ⟨by simp only;omega,by simp only;omega,by simp only[List.length_set];exact i3,this⟩ (by simp only;omega))))
 ·exact Ret_some ⟨fun k hk=>i4 k (by omega),i3⟩
end X
end Go.Vm
namespace Go.Vm
namespace X
open W Go.Proofs.St
def Bet (f:Int→Int) (i x:Int):Prop:=min (f i) (f (i+1))<f x∧f x<max (f i) (f (i+1))
def CrossC (E:List Int) (n:Nat) (f:Int→Int):Prop:=∃i:Int,0≤i∧i+1<n∧((∃j:Int,0≤j∧j<n∧frm E j.toNat<E.getD (i.toNat+1) 0∧E.getD (i.toNat+1) 0<too E j.toNat∧Bet f i j)∨
 ∃j:Int,0≤j∧j+1<n∧j≠i∧E.getD (j.toNat+1) 0=E.getD (i.toNat+1) 0∧(E.getD (i.toNat+1) 0<E.getD j.toNat 0↔E.getD (i.toNat+1) 0<E.getD i.toNat 0)∧¬(Bet f i j↔Bet f i (j+1)))
section
variable {s:List Int×List Int} (h:Valid s) {p:List Int} (hp:Ord s.1.length p) {t u:Int} (hu:u=t-1∨u=t)
include h hp hu
variable {f:Int→Int} (hf:p.Pairwise fun a b=>f a<f b)
include hf
end
end X
end Go.Vm
namespace Go.Vm
namespace X
open W Go.Proofs.St
theorem Ret_list {ι σ β:Type} {done:σ→Option β} {step:ι→(σ→Option β)→σ→Option β} {Q:β→Prop} (Inv:List ι→σ→Prop) (h0:∀x,Inv [] x→Ret (done x) Q)
  (h1:∀y l rec x,Inv (y::l) x→(∀x',Inv l x'→Ret (rec x') Q)→Ret (step y rec x) Q):∀l x,Inv l x→Ret (listF done step l x) Q
 | [],x,h=>h0 x h
 | y::l,x,h=>h1 y l _ x h fun x' h'=>Ret_list Inv h0 h1 l x' h'
theorem contains_ok {p:List Int} (hl:p.length≤10000) (x:Int):slices_Contains_int fuel (p,x)=some (decide (x∈p)):=by
 apply Ret.eq
 unfold slices_Contains_int slices_Index_int
 refine Ret_bind (Q1:=fun r:Int=>(0≤r↔x∈p)) ?_ fun r h=>Ret_some (by
  by_cases e:x∈p
  ·rw[decide_eq_true (h.2 e),decide_eq_true e]
  ·rw[decide_eq_false (fun h'=>e (h.1 h')),decide_eq_false e])
 refine Ret_loop (Inv:=fun i:Int=>0≤i∧i≤p.length∧∀k:Nat,(k:Int)<i→p.getD k 0≠x) (m:=fun i=>((p.length:Int)-i).toNat) ?_ _ _ ⟨by simp,by simp,fun k h=>by omega⟩ (by simp only[fuel];omega)
 rintro i rec ⟨i1,i2,i3⟩ ih
 simp only
 refine Ret_dec (fun hlt=>?_) fun hge=>?_
 ·refine Ret_chk (inb_t (by omega) (by omega)) (Ret_dec (fun e=>Ret_some ⟨fun _=>by rw[e];exact getD_mem (by omega),fun _=>i1⟩) fun e=>Ret_chk (i64b_t (by omega) (by omega)) (ih _ ⟨by omega,by omega,fun k hk=>?_⟩ (by omega)))
  by_cases e':(k:Int)=i
  ·rw[show k=i.toNat by omega];exact fun h=>e h.symm
  ·exact i3 k (by omega)
 ·exact Ret_some ⟨fun h=>absurd h (by omega),fun h=>absurd h (not_mem_getD fun k hk=>i3 k (by omega))⟩
theorem perm_of_sub:∀ {l p:List Int},l.Nodup→(∀x∈l,x∈p)→∃q,p.Perm (l++q)
 | [],p,_,_=>⟨p,List.Perm.refl _⟩
 | a::l,p,hn,h=>by
   obtain⟨h1,h2⟩:=List.nodup_cons.1 hn
   have ha:=h a List.mem_cons_self
   obtain⟨q,hq⟩:=perm_of_sub (l:=l) (p:=p.erase a) h2 fun x hx=>(List.mem_erase_of_ne (fun e:x=a=>h1 (by rw[←e];exact hx))).2 (h x (List.mem_cons_of_mem _ hx))
   exact⟨q,(List.perm_cons_erase ha).trans (hq.cons a)⟩
theorem ord_of {n:Nat} {p:List Int} (hl:p.length=n) (h:∀i:Nat,i<n→(i:Int)∈p):Ord n p:=by
 obtain⟨q,hq⟩:=perm_of_sub (idL_nodup n) (p:=p) fun x hx=>by
  have:=mem_idL.1 hx
  have:=h x.toNat (by omega)
  rwa[show((x.toNat:Nat):Int)=x by omega] at this
 have:=hq.length_eq
 rw[List.length_append,idL_len] at this
 have:q=[]:=List.eq_nil_of_length_eq_zero (by omega)
 subst this
 rw[List.append_nil] at hq
 exact hq
open Classical in
noncomputable def lsE (s:List Int×List Int) (p:List Int):Int:=if ckS s≠0 then ckS s else if p.length≠s.1.length then 5 else if Ord s.1.length p then 0 else 1
theorem listed_ok {s:List Int×List Int} (h:s.2.length≤1000) {p:List Int} (hl:p.length≤10000):piles_listed fuel (s,p)=some ((s,if ckS s=0 then endsL s.1 else []),lsE s p):=by
 classical
 apply Ret.eq
 unfold piles_listed
 by_cases hv:ckS s=0
 ·have hv':=ckS_valid.1 hv
  rw[show(s.1,s.2)=s from rfl,of_ok hv',if_pos hv]
  simp only[Option.bind_some]
  have e0:lsE s p=if p.length≠s.1.length then 5 else if Ord s.1.length p then 0 else 1:=by unfold lsE;rw[if_neg (fun h=>h hv)]
  rw[e0]
  refine Ret_dec (fun g=>absurd rfl g) fun _=>Ret_dec (fun g=>Ret_chk (by simp[capIs]) (Ret_some (by rw[if_pos (fun e=>g (by rw[e]))]))) fun g=>?_
  have hle:p.length=s.1.length:=by omega
  rw[if_neg (fun h=>h hle)]
  refine Ret_loop (Inv:=fun x:Int×(Unit×(Unit×Unit))=>0≤x.1∧x.1≤p.length∧∀k:Nat,(k:Int)<x.1→(k:Int)∈p) (m:=fun x=>((p.length:Int)-x.1).toNat) ?_ _ _ ⟨by simp,by simp,fun k h=>by simp at h;omega⟩ (by simp only[fuel];omega)
  rintro ⟨i,_⟩ rec ⟨i1,i2,i3⟩ ih
  simp only at i1 i2 i3 ⊢
  refine Ret_dec (fun hlt=>?_) fun hge=>?_
  ·rw[contains_ok hl,Option.bind_some]
   by_cases hm:i∈p
   ·rw[decide_eq_true hm]
    refine Ret_chk (i64b_t (by omega) (by omega)) (ih _ ⟨by simp only;omega,by simp only;omega,fun k hk=>?_⟩ (by simp only;omega))
    simp only at hk
    by_cases e:(k:Int)=i
    ·rw[e];exact hm
    ·exact i3 k (by omega)
   ·rw[decide_eq_false hm]
    refine Ret_chk (by simp[capIs]) (Ret_some ?_)
    rw[if_neg]
    intro ho
    exact hm (ho.mem_iff.2 (mem_idL.2 ⟨i1,by omega⟩))
  ·refine Ret_chk (by simp[capIs]) (Ret_some ?_)
   rw[if_pos (ord_of hle fun k hk=>i3 k (by omega))]
 ·rw[show(s.1,s.2)=s from rfl,of_err h hv,if_neg hv]
  simp only[Option.bind_some]
  refine Ret_dec (fun _=>Ret_chk (by simp[capIs]) (Ret_some (by unfold lsE;rw[if_pos hv]))) fun g=>absurd hv g
theorem lsE_ord {s:List Int×List Int} (h:Valid s) {p:List Int} (hp:Ord s.1.length p):lsE s p=0:=by
 unfold lsE
 rw[if_neg (fun g=>g (ckS_valid.2 h)),if_neg (fun g=>g hp.len),if_pos hp]
theorem listed_ord {s:List Int×List Int} (h:Valid s) {p:List Int} (hp:Ord s.1.length p):piles_listed fuel (s,p)=some ((s,endsL s.1),0):=by
 have h1:=h.1
 have h2:=h.2.1
 rw[listed_ok (by omega) (by rw[hp.len];omega),if_pos (ckS_valid.2 h),lsE_ord h hp]
theorem between_ok {r:List Int} {i:Int} (h0:0≤i) (h1:i+1<32) (v:Int):piles_between fuel (r,(i,v))=some (decide (min (r.getD i.toNat 0) (r.getD (i+1).toNat 0)<v∧v<max (r.getD i.toNat 0) (r.getD (i+1).toNat 0))):=by
 unfold piles_between
 simp only
 rw[chk_t (inb_t h0 (by omega)),chk_t (i64b_t (by omega) (by omega)),chk_t (inb_t (by omega) (by omega)),chk_t (inb_t h0 (by omega)),chk_t (i64b_t (by omega) (by omega)),chk_t (inb_t (by omega) (by omega))]
 by_cases g:min (r.getD i.toNat 0) (r.getD (i+1).toNat 0)<v
 ·rw[decide_eq_true g,cond_true]
  congr 1
  rw[Bool.eq_iff_iff,decide_eq_true_eq,decide_eq_true_eq]
  exact⟨fun h=>⟨g,h⟩,fun h=>h.2⟩
 ·rw[decide_eq_false g,cond_false]
  congr 1
  symm
  exact decide_eq_false fun h=>g h.1
def kindF (f:Int→Int) (i:Int):Int:=if f (i+i%2)<f (i+1-i%2) then 2 else 1
theorem kind_ok {r:List Int} {i:Int} (h0:0≤i) (h1:i+1<32):piles_kind fuel (r,i)=some (kindF (fun x=>r.getD x.toNat 0) i):=by
 unfold piles_kind kindF
 simp only
 rw[chk_t (i64b_t (by omega) (by omega)),chk_t (by rw[Bool.and_eq_true];exact⟨decide_eq_true (by omega),rfl⟩),chk_t (i64b_t (by omega) (by omega)),chk_t (inb_t (by omega) (by omega)),chk_t (i64b_t (by omega) (by omega)),chk_t (i64b_t (by omega) (by omega)),chk_t (i64b_t (by omega) (by omega)),chk_t (inb_t (by omega) (by omega))]
 rw[show 2*i+1-(i+1-i%2)=i+i%2 by omega]
 by_cases g:r.getD (i+i%2).toNat 0<r.getD (i+1-i%2).toNat 0
 ·rw[decide_eq_true g,cond_true,if_pos g]
 ·rw[decide_eq_false g,cond_false,if_neg g]
def CrossA (E:List Int) (n:Nat) (f:Int→Int) (i:Int):Prop:=(∃j:Int,0≤j∧j<n∧frm E j.toNat<E.getD (i.toNat+1) 0∧E.getD (i.toNat+1) 0<too E j.toNat∧Bet f i j)∨
 ∃j:Int,0≤j∧j+1<n∧j≠i∧E.getD (j.toNat+1) 0=E.getD (i.toNat+1) 0∧(E.getD (i.toNat+1) 0<E.getD j.toNat 0↔E.getD (i.toNat+1) 0<E.getD i.toNat 0)∧¬(Bet f i j↔Bet f i (j+1))
theorem mem_loop {k:Nat} {E:List Int} {t:Int} {rt:Bool} {x:Int}:x∈(loopL k E t rt).map (fun(i:Nat)=>(i:Int))↔0≤x∧x<k∧E.getD (x.toNat+1) 0=t∧decide (t<E.getD x.toNat 0)=rt:=by
 simp only[loopL,List.mem_map,List.mem_filter,List.mem_range,loopP,Bool.and_eq_true,decide_eq_true_eq,beq_iff_eq]
 constructor
 ·rintro ⟨a,⟨h1,h2,h3⟩,rfl⟩
  rw[Int.toNat_natCast]
  exact⟨by omega,by omega,h2,h3⟩
 ·rintro ⟨h1,h2,h3,h4⟩
  exact⟨x.toNat,⟨by omega,h3,h4⟩,by omega⟩
instance (f:Int→Int) (i x:Int):Decidable (Bet f i x):=by unfold Bet;infer_instance
theorem crosses_ok {s:List Int×List Int} (h:Valid s) {r:List Int} (hr:r.length=32):Ret (piles_folded_crosses fuel ((s,endsL s.1),r)) fun b=>(b=true↔CrossC (endsL s.1) s.1.length fun x=>r.getD x.toNat 0):=by
 have hel:=endsL_len s.1
 have hn:=h.1
 have hk:=h.2.1
 generalize hf:(fun x:Int=>r.getD x.toNat 0)=f
 have hfx:∀x:Int,r.getD x.toNat 0=f x:=fun x=>by rw[←hf]
 unfold piles_folded_crosses
 refine Ret_loop (Inv:=fun x:Int×(Bool×Unit)=>0≤x.1∧x.1≤s.2.length∧x.2.1=false∧∀i:Int,0≤i→i<x.1→¬CrossA (endsL s.1) s.1.length f i) (m:=fun x=>((s.2.length:Int)-x.1).toNat) ?_ _ _ ⟨by simp,by simp,rfl,fun i a b=>by simp at b;omega⟩ (by simp only[fuel];omega)
 rintro ⟨i,bad,_⟩ rec ⟨i1,i2,i3,i4⟩ ih
 simp only at i1 i2 i3 i4 ⊢
 subst i3
 refine Ret_dec (fun hlt=>?_) fun hge=>?_
 ·have ei:(i+1).toNat=i.toNat+1:=by omega
  have found:CrossA (endsL s.1) s.1.length f i→Ret (some true) fun b=>(b=true↔CrossC (endsL s.1) s.1.length f):=fun hc=>Ret_some ⟨fun _=>⟨i,i1,by omega,hc⟩,fun _=>rfl⟩
  refine Ret_chk (i64b_t (by omega) (by omega)) (Ret_chk (inb_t (by omega) (by omega)) ?_)
  rw[ei]
  have bt:∀x:Int,piles_between fuel (r,(i,f x))=some (decide (Bet f i x)):=fun x=>by
   rw[between_ok i1 (by omega)]
   rw[hfx,hfx]
   rfl
  refine Ret_loop (Inv:=fun x:Int×(Bool×Unit)=>0≤x.1∧x.1≤s.1.length∧x.2.1=false∧∀j:Int,0≤j→j<x.1→¬(frm (endsL s.1) j.toNat< (endsL s.1).getD (i.toNat+1) 0∧(endsL s.1).getD (i.toNat+1) 0<too (endsL s.1) j.toNat∧Bet f i j)) (m:=fun x=>((s.1.length:Int)-x.1).toNat) ?_ _ _ ⟨by simp,by simp,rfl,fun i a b=>by simp at b;omega⟩ (by simp only[fuel];omega)
  rintro ⟨j,bad,_⟩ rec2 ⟨j1,j2,j3,j4⟩ ih2
  simp only at j1 j2 j3 j4 ⊢
  subst j3
  refine Ret_dec (fun hlt2=>?_) fun hge2=>?_
  ·have nxt:¬(frm (endsL s.1) j.toNat< (endsL s.1).getD (i.toNat+1) 0∧(endsL s.1).getD (i.toNat+1) 0<too (endsL s.1) j.toNat∧Bet f i j)→Ret (chk (i64b (j+1)) (rec2 (j+1,(false,())))) fun b=>(b=true↔CrossC (endsL s.1) s.1.length f):=fun hc=>by
    refine Ret_chk (i64b_t (by omega) (by omega)) (ih2 _ ⟨by simp only;omega,by simp only;omega,rfl,fun j' a b=>?_⟩ (by simp only;omega))
    simp only at b
    by_cases e:j'=j
    ·subst e;exact hc
    ·exact j4 j' a (by omega)
   rw[from_ok j1 (by omega) (by omega),Option.bind_some]
   refine Ret_dec (fun g1=>?_) fun g1=>nxt fun hh=>g1 hh.1
   rw[to_ok j1 (by omega) (by omega),Option.bind_some]
   refine Ret_dec (fun g2=>?_) fun g2=>nxt fun hh=>g2 hh.2.1
   refine Ret_chk (inb_t (by omega) (by omega)) ?_
   rw[hfx,bt,Option.bind_some]
   refine Ret_dec (fun g3=>found (.inl ⟨j,j1,by omega,g1,g2,g3⟩)) fun g3=>nxt fun hh=>g3 hh.2.2
  ·refine Ret_chk (inb_t (by omega) (by omega)) ?_
   have hla:¬ ∃j:Int,0≤j∧j<s.1.length∧frm (endsL s.1) j.toNat< (endsL s.1).getD (i.toNat+1) 0∧(endsL s.1).getD (i.toNat+1) 0<too (endsL s.1) j.toNat∧Bet f i j:=fun⟨j',a,b,c⟩=>j4 j' a (by omega) c
   unfold loopRun
   simp only
   rw[show(Nat.blt (List.length (α:=Int) s.2) (List.length (α:=Int) (endsL s.1))&&Nat.ble (List.length (α:=Int) (endsL s.1)) 1000000)=true by
    simp[Nat.blt_eq]
    omega,cond_true,Option.bind_some]
   refine Ret_list (Inv:=fun(l:List Int) (x:Bool×Unit)=>x.1=false∧(∀y∈l,0≤y∧y<s.2.length∧(endsL s.1).getD (y.toNat+1) 0=(endsL s.1).getD (i.toNat+1) 0∧decide ((endsL s.1).getD (i.toNat+1) 0< (endsL s.1).getD y.toNat 0)=decide ((endsL s.1).getD (i.toNat+1) 0< (endsL s.1).getD i.toNat 0))∧
    ∀j:Int,0≤j→j<s.2.length→j≠i→(endsL s.1).getD (j.toNat+1) 0=(endsL s.1).getD (i.toNat+1) 0→decide ((endsL s.1).getD (i.toNat+1) 0< (endsL s.1).getD j.toNat 0)=decide ((endsL s.1).getD (i.toNat+1) 0< (endsL s.1).getD i.toNat 0)→(Bet f i j↔Bet f i (j+1))∨j∈l) ?_ ?_ _ _ ⟨rfl,fun y hy=>mem_loop.1 hy,fun j a b c d e=>.inr (mem_loop.2 ⟨a,b,d,e⟩)⟩
   ·rintro ⟨bad,_⟩ ⟨k1,_,k2⟩
    simp only at k1
    subst k1
    refine Ret_chk (i64b_t (by omega) (by omega)) (ih _ ⟨by simp only;omega,by simp only;omega,rfl,fun i' a b=>?_⟩ (by simp only;omega))
    simp only at b
    by_cases e:i'=i
    ·subst e
     rintro (hh | ⟨j,a1,a2,a3,a4,a5,a6⟩)
     ·exact hla hh
     ·rcases k2 j a1 (by omega) a3 a4 (by rw[decide_eq_decide];exact a5) with hh | hh
      ·exact a6 hh
      ·cases hh
    ·exact i4 i' a (by omega)
   ·rintro y l rec3 ⟨bad,_⟩ ⟨k1,k2,k3⟩ ih3
    simp only at k1
    subst k1
    obtain⟨y0,y1,y2,y3⟩:=k2 y List.mem_cons_self
    have nxt:(y≠i→(Bet f i y↔Bet f i (y+1)))→Ret (rec3 (false,())) fun b=>(b=true↔CrossC (endsL s.1) s.1.length f):=fun hc=>by
     refine ih3 _ ⟨rfl,fun z hz=>k2 z (List.mem_cons_of_mem _ hz),fun j a b c d e=>?_⟩
     rcases k3 j a b c d e with hh | hh
     ·exact .inl hh
     ·rcases List.mem_cons.1 hh with rfl | hh
      ·exact .inl (hc c)
      ·exact .inr hh
    refine Ret_dec (fun g=>?_) fun g=>nxt fun hh=>absurd hh g
    refine Ret_chk (inb_t (by omega) (by omega)) ?_
    rw[hfx,bt,Option.bind_some]
    refine Ret_chk (i64b_t (by omega) (by omega)) (Ret_chk (inb_t (by omega) (by omega)) ?_)
    rw[hfx,bt,Option.bind_some]
    by_cases e:Bet f i y↔Bet f i (y+1)
    ·rw[show(decide (Bet f i y)==decide (Bet f i (y+1)))=true by rw[beq_iff_eq,decide_eq_decide];exact e]
     exact nxt fun _=>e
    ·rw[show(decide (Bet f i y)==decide (Bet f i (y+1)))=false by rw[beq_eq_false_iff_ne,ne_eq,decide_eq_decide];exact e]
     exact found (.inr ⟨y,y0,by omega,g,y2,by rw[←decide_eq_decide];exact y3,e⟩)
 ·refine Ret_some ⟨fun hh=>(by cases hh),?_⟩
  rintro ⟨j,a,b,c⟩
  exact absurd c (i4 j a (by omega))
end X
end Go.Vm
namespace Go.Vm
namespace X
open W Go.Proofs.St
def rkF (p:List Int) (x:Int):Int:=(p.idxOf x:Nat)
theorem at_rkF {p:List Int} {x:Int} (h:x∈p):(rkF p x).toNat<p.length∧p.getD (rkF p x).toNat 0=x∧0≤rkF p x:=by
 have h1:=List.idxOf_lt_length_of_mem h
 unfold rkF
 refine⟨by omega,?_,by omega⟩
 rw[Int.toNat_natCast,List.getD,List.getElem?_eq_getElem h1,Option.getD_some,List.getElem_idxOf h1]
theorem rkF_pw {p:List Int} (h:p.Nodup):p.Pairwise fun a b=>rkF p a<rkF p b:=by
 rw[List.pairwise_iff_getElem]
 intro i j hi hj hij
 simp only[rkF,h.idxOf_getElem]
 omega
theorem Rk.rk {p r:List Int} (h:Rk p r) (hn:p.Nodup) {x:Int} (hx:x∈p):r.getD x.toNat 0=rkF p x:=by
 obtain⟨h1,h2,h3⟩:=at_rkF hx
 have:=h _ h1
 rw[h2] at this
 rw[this];omega
theorem rkF_inj {p:List Int} {x y:Int} (hx:x∈p) (hy:y∈p) (h:rkF p x=rkF p y):x=y:=by
 rw[←(at_rkF hx).2.1,h,(at_rkF hy).2.1]
theorem Bet_congr {f g:Int→Int} {n:Nat} (hfg:∀x:Int,0≤x→x<n→f x=g x) {i x:Int} (h0:0≤i) (h1:i+1<n) (hx:0≤x) (hx':x<n):Bet f i x↔Bet g i x:=by
 unfold Bet
 rw[hfg i h0 (by omega),hfg (i+1) (by omega) h1,hfg x hx hx']
theorem CrossC_congr {E:List Int} {n:Nat} {f g:Int→Int} (hfg:∀x:Int,0≤x→x<n→f x=g x):CrossC E n f→CrossC E n g:=by
 rintro ⟨i,h0,h1,⟨j,a1,a2,a3,a4,a5⟩ | ⟨j,a1,a2,a3,a4,a5,a6⟩⟩
 ·exact⟨i,h0,h1,.inl ⟨j,a1,a2,a3,a4,(Bet_congr hfg h0 h1 a1 a2).1 a5⟩⟩
 ·exact⟨i,h0,h1,.inr ⟨j,a1,a2,a3,a4,a5,fun h=>a6 (by rw[Bet_congr hfg h0 h1 a1 (by omega),Bet_congr hfg h0 h1 (by omega) (by omega)];exact h)⟩⟩
theorem Ord.memI {n:Nat} {p:List Int} (h:Ord n p) {x:Int} (h0:0≤x) (h1:x<n):x∈p:=h.mem_iff.2 (mem_idL.2 ⟨h0,h1⟩)
theorem Rk.eqF {p r:List Int} {n:Nat} (h:Rk p r) (hp:Ord n p):∀x:Int,0≤x→x<n→r.getD x.toNat 0=rkF p x:=fun x h0 h1=>h.rk hp.nodup (hp.memI h0 h1)
def KindBad (K:List Int) (p:List Int):Prop:=∃i:Int,0≤i∧i<K.length∧K.getD i.toNat 0≠3∧K.getD i.toNat 0≠kindF (rkF p) i
open Classical in
noncomputable def chkV (s:List Int×List Int) (p:List Int):Int:=if CrossC (endsL s.1) s.1.length (rkF p) then 12 else if KindBad s.2 p then 13 else 0
theorem crosses_ord {s:List Int×List Int} (h:Valid s) {p r:List Int} (hp:Ord s.1.length p) (hr:r.length=32) (hk:Rk p r):Ret (piles_folded_crosses fuel ((s,endsL s.1),r)) fun b=>(b=true↔CrossC (endsL s.1) s.1.length (rkF p)):=by
 refine(crosses_ok h hr).mono fun b hb=>hb.trans ⟨CrossC_congr (hk.eqF hp),CrossC_congr fun x h0 h1=>(hk.eqF hp x h0 h1).symm⟩
theorem kindF_congr {f g:Int→Int} {i:Int} (h1:f (i+i%2)=g (i+i%2)) (h2:f (i+1-i%2)=g (i+1-i%2)):kindF f i=kindF g i:=by
 unfold kindF
 rw[h1,h2]
theorem kind_ord {s:List Int×List Int} (h:Valid s) {p r:List Int} (hp:Ord s.1.length p) (hk:Rk p r) {i:Int} (h0:0≤i) (h1:i<s.2.length):piles_kind fuel (r,i)=some (kindF (rkF p) i):=by
 have:=h.1
 have:=h.2.1
 rw[kind_ok h0 (by omega)]
 rw[kindF_congr (f:=fun x=>r.getD x.toNat 0) (g:=rkF p) (hk.eqF hp _ (by omega) (by omega)) (hk.eqF hp _ (by omega) (by omega))]
theorem Check_ok {s:List Int×List Int} (h:Valid s) {p:List Int} (hp:Ord s.1.length p):piles_Check fuel (s,p)=some (chkV s p):=by
 classical
 apply Ret.eq
 have hn:=h.1
 have hk2:=h.2.1
 have hl:=hp.len
 unfold piles_Check
 rw[show((s.1,s.2),p)=(s,p) from rfl,listed_ord h hp,Option.bind_some]
 refine Ret_dec (fun g=>absurd rfl g) fun _=>?_
 refine Ret_bind (ranks_ok (p:=p) hp.in hp.nodup hn (by omega)) fun r ⟨hr,hr2⟩=>?_
 refine Ret_bind (crosses_ord h hp hr2 hr) fun b hb=>?_
 unfold chkV
 cases b with
 | true=>exact Ret_some (by rw[if_pos (hb.1 rfl)])
 | false=>
   rw[if_neg (fun h=>by cases hb.2 h)]
   refine Ret_loop (Inv:=fun i:Int=>0≤i∧i≤s.2.length∧∀j:Int,0≤j→j<i→¬(s.2.getD j.toNat 0≠3∧s.2.getD j.toNat 0≠kindF (rkF p) j)) (m:=fun i=>((s.2.length:Int)-i).toNat) ?_ _ _ ⟨by simp,by simp,fun j a b=>by omega⟩ (by simp only[fuel];omega)
   rintro i rec ⟨i1,i2,i3⟩ ih
   simp only
   refine Ret_dec (fun hlt=>?_) fun hge=>?_
   ·have nxt:¬(s.2.getD i.toNat 0≠3∧s.2.getD i.toNat 0≠kindF (rkF p) i)→Ret (chk (i64b (i+1)) (rec (i+1))) fun x=>x=if KindBad s.2 p then 13 else 0:=fun hc=>by
     refine Ret_chk (i64b_t (by omega) (by omega)) (ih _ ⟨by omega,by omega,fun j a b=>?_⟩ (by omega))
     by_cases e:j=i
     ·subst e;exact hc
     ·exact i3 j a (by omega)
    refine Ret_chk (inb_t (by omega) (by omega)) (Ret_dec (fun g=>?_) fun g=>nxt fun hh=>g hh.1)
    rw[kind_ord h hp hr i1 hlt,Option.bind_some]
    exact Ret_dec (fun g2=>Ret_some (by rw[if_pos ⟨i,i1,hlt,g,g2⟩])) fun g2=>nxt fun hh=>g2 hh.2
   ·exact Ret_some (by rw[if_neg];rintro ⟨j,a,b,c⟩;exact i3 j a (by omega) c)
end X
end Go.Vm
namespace Go.Vm
namespace X
open W Go.Proofs.St
theorem T_Of_len {a:List Int×List Int} (h1:bytes a.1) (h2:bytes a.2):Ret (law16_T_Of fuel a) fun s=>OfQ s∧s.1.length≤max 1 a.1.length:=by
 unfold law16_T_Of
 have fin:∀x:Int×(List Int×List Int),(0≤x.1∧x.1≤12∧x.1≤((a.1.length:Nat):Int)∧x.2.1.length=x.1.toNat∧x.2.2.length=x.1.toNat-1∧(∀y∈x.2.1,1≤y∧y≤8)∧∀y∈x.2.2,1≤y∧y≤3)→
   Ret (bif(decide (((x.2.1.length:Nat):Int)=0)) then(some ([1],x.2.2)) else(some (x.2.1,x.2.2))) fun s=>OfQ s∧s.1.length≤max 1 a.1.length:=by
  intro x ⟨i1,i2,i7,i3,i4,i5,i6⟩
  refine Ret_dec (fun h=>Ret_some ⟨⟨by simp,by simp,?_,by simp,i6⟩,by simp only[List.length_singleton];omega⟩) fun h=>Ret_some ⟨⟨?_,?_,?_,i5,i6⟩,by simp only;omega⟩
  ·simp only[List.length_singleton];omega
  all_goals (simp only;omega)
 refine Ret_loop (Inv:=fun x=>0≤x.1∧x.1≤12∧x.1≤((a.1.length:Nat):Int)∧x.2.1.length=x.1.toNat∧x.2.2.length=x.1.toNat-1∧(∀y∈x.2.1,1≤y∧y≤8)∧∀y∈x.2.2,1≤y∧y≤3) (m:=fun x=>(12-x.1).toNat) ?_ _ _ ⟨by simp,by simp,by simp,by simp,by simp,by simp,by simp⟩ (by simp[fuel])
 intro x rec hi ih
 have hI:=hi
 obtain⟨i1,i2,i7,i3,i4,i5,i6⟩:=hi
 refine Ret_dec (fun hlt=>?_) fun _=>fin x hI
 refine Ret_dec (fun h12=>?_) fun _=>fin x hI
 have hb:=h1 _ (getD_mem (i:=x.1.toNat) (by omega))
 refine Ret_chk (inb_t i1 hlt) ?_
 refine Ret_chk (by rw[Bool.and_eq_true];exact⟨decide_eq_true (by omega),rfl⟩) ?_
 refine Ret_chk (i64b_t (by omega) (by omega)) ?_
 refine Ret_chk (i64b_t (by omega) (by omega)) ?_
 refine Ret_chk (lenOk_t (by omega)) ?_
 have e5:=mem_snoc i5 (a:=1+ (a.1.getD x.1.toNat 0)%8) (P:=fun y=>1≤y∧y≤8) (by omega)
 refine Ret_dec (fun hpos=>?_) fun hz=>?_
 ·refine Ret_dec (fun hk=>?_) fun hk=>?_
  ·refine Ret_chk (i64b_t (by omega) (by omega)) ?_
   refine Ret_chk (inb_t (by omega) (by omega)) ?_
   have hb2:=h2 _ (getD_mem (L:=a.2) (i:=(x.1-1).toNat) (by omega))
   refine Ret_chk (by rw[Bool.and_eq_true];exact⟨decide_eq_true (by omega),rfl⟩) ?_
   refine Ret_chk (lenOk_t (by omega)) ?_
   refine Ret_chk (i64b_t (by omega) (by omega)) ?_
   refine ih _ ⟨by simp only;omega,by simp only;omega,by simp only;omega,by simp only[List.length_append,List.length_singleton];omega,by simp only[List.length_append,List.length_singleton];omega,e5,mem_snoc i6 ?_⟩ (by simp only;omega)
   rw[wrap_u8 (by omega) (by omega)];omega
  ·refine Ret_chk (lenOk_t (by omega)) ?_
   refine Ret_chk (i64b_t (by omega) (by omega)) ?_
   exact ih _ ⟨by simp only;omega,by simp only;omega,by simp only;omega,by simp only[List.length_append,List.length_singleton];omega,by simp only[List.length_append,List.length_singleton];omega,e5,mem_snoc i6 (by omega)⟩ (by simp only;omega)
 ·refine Ret_chk (i64b_t (by omega) (by omega)) ?_
  exact ih _ ⟨by simp only;omega,by simp only;omega,by simp only;omega,by simp only[List.length_append,List.length_singleton];omega,by simp only;omega,e5,i6⟩ (by simp only;omega)
def SameP (E:List Int) (n:Nat) (p q:List Int):Prop:=∀i k:Int,0≤k→k<i→i<n→ovl E i.toNat k.toNat=true→(rkF p i<rkF p k↔rkF q i<rkF q k)
theorem ovl_symm {E:List Int} {i k:Nat}:ovl E i k=ovl E k i:=by unfold ovl;rw[Bool.and_comm]
theorem SameP.all {E:List Int} {n:Nat} {p q:List Int} (hp:Ord n p) (hq:Ord n q) (h:SameP E n p q) {i k:Int} (h1:0≤i) (h2:i<n) (h3:0≤k) (h4:k<n) (ho:ovl E i.toNat k.toNat=true):rkF p i<rkF p k↔rkF q i<rkF q k:=by
 rcases Int.lt_trichotomy i k with e | e | e
 ·have:=h k i h1 e h4 (by rw[ovl_symm];exact ho)
  have a:rkF p i≠rkF p k:=fun g=>by have:=rkF_inj (hp.memI h1 h2) (hp.memI h3 h4) g;omega
  have b:rkF q i≠rkF q k:=fun g=>by have:=rkF_inj (hq.memI h1 h2) (hq.memI h3 h4) g;omega
  omega
 ·subst e;omega
 ·exact h i k h3 e h2 ho
theorem SameP.refl {E:List Int} {n:Nat} {p:List Int}:SameP E n p p:=fun _ _ _ _ _ _=>Iff.rfl
def ordersL:Nat→List (List Int)
 | 0=>[[]]
 | k+1=>(ordersL k).flatMap fun l=>(List.range (l.length+1)).map fun a=>(l.take a++[(k:Int)])++l.drop a
theorem ordersL_ord:∀ {n:Nat} {l:List Int},l∈ordersL n→Ord n l
 | 0,l,h=>by simp[ordersL] at h;subst h;exact List.Perm.refl _
 | k+1,l,h=>by
   obtain⟨m,hm,h⟩:=List.mem_flatMap.1 h
   obtain⟨a,ha,rfl⟩:=List.mem_map.1 h
   have:=ordersL_ord hm
   unfold Ord
   rw[idL_snoc]
   refine List.Perm.trans ?_ (this.append_right [(k:Int)])
   rw[List.append_assoc]
   refine List.Perm.trans (List.Perm.append_left _ List.perm_append_comm) ?_
   rw[←List.append_assoc,List.take_append_drop]
theorem ordersL_mem:∀ {n:Nat} {l:List Int},Ord n l→l∈ordersL n
 | 0,l,h=>by
   have:=h.len
   rw[List.eq_nil_of_length_eq_zero this];simp[ordersL]
 | k+1,l,h=>by
   obtain⟨A,B,rfl⟩:=List.append_of_mem (h.mem (i:=k) (by omega))
   have ho:Ord k (A++B):=by
    unfold Ord at h ⊢
    rw[idL_snoc] at h
    have h2:((k:Int)::(A++B)).Perm ((k:Int)::idL k):=List.perm_middle.symm.trans (h.trans (List.perm_append_comm (l₁:=idL k) (l₂:=[(k:Int)])))
    exact(List.perm_cons _).1 h2
   refine List.mem_flatMap.2 ⟨A++B,ordersL_mem ho,List.mem_map.2 ⟨A.length,List.mem_range.2 (by rw[List.length_append];omega),?_⟩⟩
   simp
theorem flat_len {n:Nat} {f:List Int→List (List Int)}:∀ {L:List (List Int)},(∀l∈L,(f l).length=n)→(L.flatMap f).length=L.length*n
 | [],_=>by simp
 | a::L,h=>by
   rw[List.flatMap_cons,List.length_append,flat_len fun l hl=>h l (List.mem_cons_of_mem _ hl),h a List.mem_cons_self,List.length_cons,Nat.add_mul]
   omega
theorem ordersL_len {k:Nat}:(ordersL (k+1)).length=(ordersL k).length* (k+1):=
 flat_len fun l hl=>by rw[List.length_map,List.length_range,(ordersL_ord hl).len]
theorem ordersL_le {k:Nat} (h:k≤5):(ordersL k).length≤120:=by
 have h0:(ordersL 0).length=1:=rfl
 have h1:(ordersL 1).length=1:=by rw[ordersL_len (k:=0),h0]
 have h2:(ordersL 2).length=2:=by rw[ordersL_len (k:=1),h1]
 have h3:(ordersL 3).length=6:=by rw[ordersL_len (k:=2),h2]
 have h4:(ordersL 4).length=24:=by rw[ordersL_len (k:=3),h3]
 have h5:(ordersL 5).length=120:=by rw[ordersL_len (k:=4),h4]
 rcases(by omega:k=0∨k=1∨k=2∨k=3∨k=4∨k=5) with rfl | rfl | rfl | rfl | rfl | rfl<;>omega
end X
end Go.Vm
