/-
  Ends: the law EndsAny.
  Ends: the law EndsBack.
  Ends: the laws EndsFolds, EndsPile, EndsKnown.
-/
import Derived.Test.YtldgdgacdcenkaaGreatDoorEFb
import Derived.Test.YtldgdgacdcenkaaGreatDoorEP
set_option linter.unusedSimpArgs false
set_option linter.unusedVariables false
set_option linter.unusedSectionVars false
set_option linter.unnecessarySimpa false
namespace Go.Vm
namespace X
open W Go.Proofs.St Go.Vm.X.Fd
end X
end Go.Vm
namespace Go.Vm
namespace X
open W Go.Proofs.St
end X
end Go.Vm
namespace Go.Vm
namespace X
open W Go.Proofs.St Go.Vm.X.Fd
def Free (E:List Int) (n:Nat) (p o:List Int) (i:Int):Prop:=i∉o∧∀k:Int,0≤k→k<n→k∈o∨rkF p i≤rkF p k∨ovl E i.toNat k.toNat=false
structure Greedy (E:List Int) (n:Nat) (p L:List Int):Prop where
 nd:L.Nodup
 rng:In n L
 free:∀m:Nat,m<L.length→Free E n p (L.take m) (L.getD m 0)
 least:∀m:Nat,m<L.length→∀j:Int,0≤j→j<n→Free E n p (L.take m) j→L.getD m 0≤j
theorem eq_fold {v:Int}:∀ {s:Sp},Good s→(∀x∈s.1,x=v)→Done s:=fun {s} hs hv=>by
 revert hs hv
 refine fold_ind (P:=fun s=>Good s→(∀x∈s.1,x=v)→Done s) ?_ ?_ s
 ·intro s e hs hv
  have hl:=hs.len
  unfold Done
  rw[foldS_nil e]
  by_cases hk:0<s.2.length
  ·have h0:=hv _ (getD_mem (L:=s.1) (i:=0) (by omega))
   have h1:=hv _ (getD_mem (L:=s.1) (i:=1) (by omega))
   have:lok s=true:=by rw[lok,decide_eq_true hk,decide_eq_true (by omega)];rfl
   have hm:=mem_steps (s:=s) (k:=0) (i:=0) (by omega) (by omega) (by simp[sok,this])
   rw[e] at hm;cases hm
  ·simp only;omega
 ·intro s x t e ih hs hv
  have hx:=sok_of_cons e
  have hl:=hs.len
  have hk:=(sok_bound hx).1
  have h0:=hv _ (getD_mem (L:=s.1) (i:=0) (by omega))
  have h1:=hv _ (getD_mem (L:=s.1) (i:=1) (by omega))
  have hlk:lok s=true:=by rw[lok,decide_eq_true hk,decide_eq_true (by omega)];rfl
  have ex:x=(1,0):=by
   obtain⟨rest,er⟩:=preS_split (n:=s.1.length) (j:=0) (i:=0) (by omega) (by omega)
   have el:stepsL s=((((0:Nat):Int)+1,((0:Nat):Int))::rest).filter (sok s):=by
    rw[stepsL,er,List.filter_append];simp[preS,rowS,idL]
   rw[List.filter_cons,if_pos (by simp[sok,hlk])] at el
   rw[el] at e
   cases e;rfl
  have hd:=ih (aft_good hs hx) fun y hy=>by
   subst ex
   exact hv y (List.mem_of_mem_drop hy)
  unfold Done at hd ⊢
  rw[foldS_cons e];exact hd
theorem law18_EndsPile_true {a:(List Int×List Int)×Bool} (h1:bytes a.1.1) (h2:bytes a.1.2):law18_EndsPile fuel a=some true:=by
 apply Ret.eq
 unfold law18_EndsPile
 refine Ret_bind (law18_D_ok (a:=(a.1.1,a.1.2)) h1 h2) fun s hs0=>?_
 obtain⟨hs,hlen,hb8⟩:=hs0
 have hl:=hs.len
 have fin:∀(s:Sp) (hs:Good s) (hq:a.2=true→Done s),Ret ((ends_Folds fuel (s.1,s.2)).bind fun r3=>(ends_Pile fuel (s.1,s.2)).bind fun r4=>jn (fun(x5:Bool)=>bif x5 then(some false) else(bif(!r3.1) then(bif(decide (r4.2=15)) then(bif(decide (((r4.1.length:Nat):Int)=0)) then((law18_lives fuel ()).bind fun r6=>some r6) else(some false)) else(some false)) else(bif(decide (r4.2=0)) then(bif(decide (((r4.1.length:Nat):Int)=((r4.1.length:Nat):Int))) then((piles_Check fuel ((s.1,s.2),r4.1)).bind fun r7=>bif(decide (r7=0)) then((law18_lives fuel ()).bind fun r8=>some r8) else(some false)) else(some false)) else(some false)))) (fun j5=>bif(decide (r3.2≠0)) then(j5 true) else(bif a.2 then(j5 (!r3.1)) else(j5 false)))) fun x=>x=true:=fun s hs hq=>by
  simp only[eta]
  refine Ret_bind (Ret.of (Folds_ok hs)) fun r hr=>?_
  subst hr
  by_cases hd:Done s
  ·have hdd:decide ((foldS s).2.2.length=0)=true:=decide_eq_true hd
   refine Ret_bind (Ret.of ((Pile_ok hs).1 hd)) fun r4 hr=>?_
   subst hr
   simp only[hdd,Bool.not_true,cond_false]
   refine Ret_jn (fun b=>b=false) (fun b hb=>?_) fun j hj=>Ret_dec (fun h=>absurd rfl h) fun _=>Ret_bif (fun _=>hj _ rfl) fun _=>hj _ rfl
   subst hb
   refine Ret_bif (fun h=>by cases h) fun _=>Ret_dec (fun _=>Ret_dec (fun _=>?_) fun h=>absurd trivial h) fun h=>absurd trivial h
   refine Ret_bind (Ret.of (Check_ok hs.1.1 (pile_ord hs hd))) fun r hr=>?_
   subst hr
   rw[pile_chk hs hd]
   exact Ret_dec (fun _=>Ret_bind (Ret.of lives18) fun r hr=>Ret_some hr) fun h=>absurd rfl h
  ·have hdd:decide ((foldS s).2.2.length=0)=false:=decide_eq_false hd
   have ha:a.2=false:=by
    cases e:a.2 with
    | false=>rfl
    | true=>exact absurd (hq e) hd
   refine Ret_bind (Ret.of ((Pile_ok hs).2 hd)) fun r4 hr=>?_
   subst hr
   simp only[hdd,Bool.not_false,cond_true]
   refine Ret_jn (fun b=>b=false) (fun b hb=>?_) fun j hj=>Ret_dec (fun h=>absurd rfl h) fun _=>Ret_bif (fun h=>by rw[ha] at h;cases h) fun _=>hj _ rfl
   subst hb
   refine Ret_bif (fun h=>by cases h) fun _=>Ret_dec (fun _=>Ret_dec (fun _=>?_) fun h=>absurd rfl h) fun h=>absurd trivial h
   exact Ret_bind (Ret.of lives18) fun r hr=>Ret_some hr
 refine Ret_loop (Inv:=fun x:Int×(List Int×Option Nat)=>0≤x.1∧x.1≤s.1.length∧x.2.1.length=s.1.length∧(∀i:Nat,i<s.1.length→1≤x.2.1.getD i 0∧x.2.1.getD i 0≤8)∧(∀i:Nat,(i:Int)<x.1→x.2.1.getD i 0=x.2.1.getD 0 0)∧(a.2=false→x.2.1=s.1)) (m:=fun x=>((s.1.length:Int)-x.1).toNat) ?_ _ _ ⟨by simp,by simp,rfl,fun i hi=>hb8 _ (getD_mem hi),fun i hi=>(by simp at hi;omega),fun _=>rfl⟩ (by simp only[fuel];omega)
 rintro ⟨i,L,c⟩ rec ⟨i1,i2,i3,i4,i5,i6⟩ ih
 simp only at i1 i2 i3 i4 i5 i6
 dsimp only
 have hLb:∀x∈L,1≤x∧x≤8:=all_of_getD fun j hj=>i4 j (by omega)
 have hgood:Good (L,s.2):=by
  obtain⟨⟨⟨v1,v2,v3,v4⟩,v5⟩,v6⟩:=hs
  refine⟨⟨⟨by simp only;omega,by simp only;omega,fun x hx=>by have:=hLb x hx;omega,v4⟩,v5⟩,?_⟩
  have:=wSum_small fun x hx=>(hLb x hx).2
  simp only;omega
 refine Ret_dec (fun hlt=>?_) fun hge=>?_
 ·refine Ret_bif (fun hat=>?_) fun hat=>fin (L,s.2) hgood fun h=>by rw[hat] at h;cases h
  refine Ret_chk (inb_t (by omega) (by omega)) (Ret_chk (inb_t (by omega) (by omega)) (Ret_chk (i64b_t (by omega) (by omega)) (ih _ ⟨by simp only;omega,by simp only;omega,by simp only[List.length_set];exact i3,fun j hj=>?_,fun j hj=>?_,fun h=>by rw[hat] at h;cases h⟩ (by simp only;omega))))
  ·simp only
   rw[getD_set (by omega)]
   split
   ·exact i4 0 (by omega)
   ·exact i4 j hj
  ·simp only at hj ⊢
   rw[getD_set (by omega),getD_set (by omega)]
   by_cases h0:0=i.toNat
   ·rw[if_pos h0,if_pos (by omega)]
   ·rw[if_neg h0]
    split
    ·rfl
    ·exact i5 j (by omega)
 ·exact fin (L,s.2) hgood fun h=>eq_fold (v:=L.getD 0 0) hgood (all_of_getD fun j hj=>i5 j (by simp only at hj;omega))
end X
end Go.Vm
