/-
  Rings: plain laws: ranks, between, crosses, kind, wrong, listed, Valid.
  Rings: the law RingsValid.
  Rings: the law RingsValid.
-/
import Derived.Test.YtofimkliemlojaaRA
set_option linter.unusedSimpArgs false
set_option linter.unusedVariables false
set_option linter.unusedSectionVars false
set_option linter.unnecessarySimpa false
namespace Go.Vm
namespace X
open W Go.Proofs.St
theorem contains_ok {p:List Int} (hl:p.length≤10000) (x:Int):slices_Contains_int fuel (p,x)=some (decide (x∈p)):=by
 apply Ret.eq
 unfold slices_Contains_int
 refine Ret_loop (Inv:=fun i:Int=>0≤i∧i≤p.length∧∀k:Nat,(k:Int)<i→p.getD k 0≠x) (m:=fun i=>((p.length:Int)-i).toNat) ?_ _ _ ⟨by simp,by simp,fun k h=>by omega⟩ (by simp only[fuel];omega)
 rintro i rec ⟨i1,i2,i3⟩ ih
 simp only
 refine Ret_dec (fun hlt=>?_) fun hge=>?_
 ·refine Ret_chk (inb_t (by omega) (by omega)) (Ret_dec (fun e=>Ret_some ?_) fun e=>Ret_chk (i64b_t (by omega) (by omega)) (ih _ ⟨by omega,by omega,fun k hk=>?_⟩ (by omega)))
  ·have:x∈p:=by rw[e];exact getD_mem (by omega)
   rw[decide_eq_true this]
   exact decide_eq_true i1
  ·by_cases e':(k:Int)=i
   ·rw[show k=i.toNat by omega];exact fun h=>e h.symm
   ·exact i3 k (by omega)
 ·refine Ret_some ?_
  rw[decide_eq_false (not_mem_getD fun k hk=>i3 k (by omega))]
structure RkR (p r:List Int):Prop where
 len:r.length=32
 rk:Rk p r
 no:∀k:Nat,k<32→(k:Int)∉p→r.getD k 0= -1
theorem rings_rank_ok {p:List Int} {n:Nat} (hp:In n p) (hd:p.Nodup) (hn:n≤32) (hl:p.length≤10000):Ret (rings_rank fuel p) (RkR p):=by
 unfold rings_rank
 refine Ret_loop (Inv:=fun x:Int×List Int=>0≤x.1∧x.1≤32∧x.2.length=32∧∀k:Nat,k<x.1.toNat→x.2.getD k 0= -1) (m:=fun x=>(32-x.1).toNat) ?_ _ _ ⟨by simp,by simp,rfl,by simp⟩ (by simp only[fuel];omega)
 rintro ⟨i,r⟩ rec ⟨i1,i2,i3,i4⟩ ih
 simp only at i1 i2 i3 i4 ⊢
 refine Ret_dec (fun hlt=>?_) fun hge=>?_
 ·refine Ret_chk (inb_t (by omega) (by omega)) (Ret_chk (i64b_t (by omega) (by omega)) (ih _ ⟨by simp only;omega,by simp only;omega,by simp only[List.length_set];exact i3,fun k hk=>?_⟩ (by simp only;omega)))
  simp only at hk ⊢
  rw[getD_set (by omega)]
  split
  ·rfl
  ·exact i4 k (by omega)
 ·refine Ret_loop (Inv:=fun x:Int×List Int=>0≤x.1∧x.1≤p.length∧x.2.length=32∧(∀k:Nat,k<x.1.toNat→x.2.getD (p.getD k 0).toNat 0=k)∧∀k:Nat,k<32→(k:Int)∉p→x.2.getD k 0= -1) (m:=fun x=>((p.length:Int)-x.1).toNat) ?_ _ _ ⟨by simp,by simp,i3,by simp,fun k hk _=>i4 k (by omega)⟩ (by simp only[fuel];omega)
  rintro ⟨i,r⟩ rec ⟨i1,i2,i3,i4,i5⟩ ih
  simp only at i1 i2 i3 i4 i5 ⊢
  refine Ret_dec (fun hlt=>?_) fun hge=>?_
  ·have hm:=getD_mem (L:=p) (i:=i.toNat) (by omega)
   have hx:=hp _ hm
   have:=set_rk hd hp (by omega) (by omega) i4
   rw[show((i.toNat:Nat):Int)=i by omega,show i.toNat+1=(i+1).toNat by omega] at this
   refine Ret_chk (inb_t (by omega) (by omega)) (Ret_chk (inb_t (by omega) (by omega)) (Ret_chk (i64b_t (by omega) (by omega)) (ih _ ⟨by simp only;omega,by simp only;omega,by simp only[List.length_set];exact i3,this,fun k hk hkp=>?_⟩ (by simp only;omega))))
   simp only
   rw[getD_set (by omega),if_neg (fun e=>hkp (by rw[e,show(((p.getD i.toNat 0).toNat:Nat):Int)=p.getD i.toNat 0 by omega];exact hm))]
   exact i5 k hk hkp
  ·exact Ret_some ⟨i3,fun k hk=>i4 k (by omega),i5⟩
section
variable {L K E:List Int} (hL:L.length≤32)
include hL
theorem rings_from_ok (hE:E.length=L.length+1) {i:Int} (h0:0≤i) (h1:i<L.length):rings_folded_from fuel (((L,K),E),i)=some (frm E i.toNat):=by
 unfold rings_folded_from
 rw[chk_t (inb_t h0 (by simp only;omega)),chk_t (i64b_t (by simp only;omega) (by simp only;omega)),chk_t (inb_t (by simp only;omega) (by simp only;omega))]
 simp only[frm,show(i+1).toNat=i.toNat+1 by omega]
theorem rings_to_ok (hE:E.length=L.length+1) {i:Int} (h0:0≤i) (h1:i<L.length):rings_folded_to fuel (((L,K),E),i)=some (too E i.toNat):=by
 unfold rings_folded_to
 rw[chk_t (inb_t h0 (by simp only;omega)),chk_t (i64b_t (by simp only;omega) (by simp only;omega)),chk_t (inb_t (by simp only;omega) (by simp only;omega))]
 simp only[too,show(i+1).toNat=i.toNat+1 by omega]
end
def BetP (n:Nat) (f:Int→Int) (i x:Int):Prop:=0≤min (f i) (f (sc n i))∧BetR n f i x
instance (n:Nat) (f:Int→Int) (i x:Int):Decidable (BetR n f i x):=by unfold BetR;infer_instance
instance (n:Nat) (f:Int→Int) (i x:Int):Decidable (BetP n f i x):=by unfold BetP;infer_instance
theorem rings_listed_ok {s:List Int×List Int} (h:RValid s) {p:List Int} (hl:p.length≤10000):Ret (rings_listed fuel (s,p)) fun e=>(Ord s.1.length p→e=0)∧(¬Ord s.1.length p→e=if p.length=s.1.length then 1 else 5):=by
 unfold rings_listed
 rw[show rings_Check fuel ((s,p).1.1,(s,p).1.2)=some 0 from rings_Check_ok h,Option.bind_some]
 simp only
 refine Ret_dec (fun g=>absurd rfl g) fun _=>Ret_dec (fun g=>Ret_some ⟨fun ho=>absurd ho.len (by omega),fun _=>by rw[if_neg (by omega)]⟩) fun g=>?_
 have hle:p.length=s.1.length:=by omega
 refine Ret_loop (Inv:=fun x:Int=>0≤x∧x≤p.length∧∀k:Nat,(k:Int)<x→(k:Int)∈p) (m:=fun x=>((p.length:Int)-x).toNat) ?_ _ _ ⟨by simp,by simp,fun k h=>by omega⟩ (by simp only[fuel];omega)
 rintro i rec ⟨i1,i2,i3⟩ ih
 refine Ret_dec (fun hlt=>?_) fun hge=>?_
 ·rw[contains_ok hl,Option.bind_some]
  by_cases hm:i∈p
  ·rw[decide_eq_true hm]
   refine Ret_chk (i64b_t (by omega) (by omega)) (ih _ ⟨by omega,by omega,fun k hk=>?_⟩ (by omega))
   by_cases e:(k:Int)=i
   ·rw[e];exact hm
   ·exact i3 k (by omega)
  ·rw[decide_eq_false hm]
   refine Ret_some ⟨fun ho=>absurd (ho.mem_iff.2 (mem_idL.2 ⟨i1,by omega⟩)) hm,fun _=>by rw[if_pos hle]⟩
 ·exact Ret_some ⟨fun _=>rfl,fun ho=>absurd (ord_of hle fun k hk=>i3 k (by omega)) ho⟩
theorem rings_listed_ord {s:List Int×List Int} (h:RValid s) {p:List Int} (hp:Ord s.1.length p):rings_listed fuel (s,p)=some 0:=by
 have hn:=h.le
 obtain⟨e,h1,h2,_⟩:=rings_listed_ok h (p:=p) (by rw[hp.len];omega)
 rw[h1,h2 hp]
end X
end Go.Vm
namespace Go.Vm
namespace X
open W Go.Proofs.St
end X
end Go.Vm
namespace Go.Vm
namespace X
open W Go.Proofs.St
theorem lives22:law22_lives fuel ()=some true:=by kernel_rfl
end X
end Go.Vm
