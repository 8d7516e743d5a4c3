/-
  Ends: the law EndsAny.
  Ends: the law EndsBack.
  Ends: the laws EndsFolds, EndsPile, EndsKnown.
-/
import Derived.Test.YtldgdgacdcenkaaGreatDoorEFb
import Derived.Test.YtldgdgacdcenkaaGreatDoorEP
set_option linter.unusedSimpArgs false
set_option linter.unusedVariables false
set_option linter.unusedSectionVars false
set_option linter.unnecessarySimpa false
namespace Go.Vm
namespace X
open W Go.Proofs.St Go.Vm.X.Fd
end X
end Go.Vm
namespace Go.Vm
namespace X
open W Go.Proofs.St
end X
end Go.Vm
namespace Go.Vm
namespace X
open W Go.Proofs.St Go.Vm.X.Fd
theorem law18_D_len {a:List Int×List Int} (h1:bytes a.1) (h2:bytes a.2):Ret (law18_D fuel a) fun s=>Good0 s∧s.1.length≤max 1 a.1.length:=by
 unfold law18_D
 refine Ret_bind (T_Of_len (a:=(a.1,a.2)) h1 h2) fun r ⟨⟨q1,q2,q3,q4,q5⟩,q6⟩=>?_
 refine Ret_loop (Inv:=fun x:Int×(List Int×Option Nat)=>0≤x.1∧x.1≤r.2.length∧x.2.1.length=r.2.length∧∀i:Nat,i<r.2.length→1≤x.2.1.getD i 0∧x.2.1.getD i 0≤3∧((i:Int)<x.1→x.2.1.getD i 0≠3)) (m:=fun x=>((r.2.length:Int)-x.1).toNat) ?_ _ _ ⟨by simp,by simp,rfl,fun i hi=>?_⟩ (by simp only[fuel];omega)
 ·rintro ⟨i,K,o⟩ rec ⟨i1,i2,i3,i4⟩ ih
  simp only at i1 i2 i3 i4 ⊢
  refine Ret_dec (fun hlt=>Ret_chk (inb_t (by omega) (by omega)) (Ret_dec (fun h3=>?_) fun h3=>?_)) fun hge=>?_
  ·refine Ret_chk (inb_t (by omega) (by omega)) (Ret_chk (i64b_t (by omega) (by omega)) (ih _ ⟨by simp only;omega,by simp only;omega,by simp only[List.length_set];exact i3,fun j hj=>?_⟩ (by simp only;omega)))
   simp only
   rw[getD_set (by omega)]
   split
   ·omega
   ·have:=i4 j hj;omega
  ·refine Ret_chk (i64b_t (by omega) (by omega)) (ih _ ⟨by simp only;omega,by simp only;omega,i3,fun j hj=>?_⟩ (by simp only;omega))
   have:=i4 j hj
   refine⟨this.1,this.2.1,fun h=>?_⟩
   by_cases hji:(j:Int)=i
   ·rw[←hji,Int.toNat_natCast] at h3;exact h3
   ·exact this.2.2 (by simp only at h;omega)
  ·have hK:∀x∈K,1≤x∧x≤2:=all_of_getD fun j hj=>by have:=i4 j (by omega);omega
   refine Ret_some ⟨⟨⟨⟨⟨by simp only;omega,by simp only;omega,fun x hx=>by have:=q4 x hx;omega,fun x hx=>by have:=hK x hx;omega⟩,fun x hx=>by have:=hK x hx;omega⟩,?_⟩,q2,q4⟩,q6⟩
   have:=wSum_small fun x hx=>(q4 x hx).2
   simp only;omega
 ·have:=q5 _ (getD_mem (L:=r.2) hi)
  exact⟨this.1,this.2,fun h=>absurd h (by simp only;omega)⟩
theorem ordersL_le6 {k:Nat} (h:k≤6):(ordersL k).length≤720:=by
 by_cases e:k=6
 ·subst e
  have:(ordersL 6).length=(ordersL 5).length* (5+1):=ordersL_len (k:=5)
  have:=ordersL_le (k:=5) (by omega)
  omega
 ·have:=ordersL_le (k:=k) (by omega);omega
theorem orders_ok {n:Nat} (hn:n≤6):law18_orders fuel (n:Int)=some (ordersL n):=by
 apply Ret.eq
 unfold law18_orders
 refine Ret_loop (Inv:=fun x:List (List Int)×Int=>0≤x.2∧x.2≤n∧x.1=ordersL x.2.toNat) (m:=fun x=>((n:Int)-x.2).toNat) ?_ _ _ ⟨by simp,by simp,rfl⟩ (by simp only[fuel];omega)
 rintro ⟨out,k⟩ rec ⟨i1,i2,i3⟩ ih
 simp only at i1 i2 i3 ⊢
 refine Ret_dec (fun hlt=>?_) fun hge=>Ret_some (by rw[i3,show k.toNat=n by omega])
 have hle:=ordersL_le6 (k:=k.toNat) (by omega)
 have hle1:=ordersL_le6 (k:=k.toNat+1) (by omega)
 have hll:=ordersL_len (k:=k.toNat)
 have hord:∀l∈out,l.length=k.toNat:=fun l hl=>by rw[i3] at hl;exact(ordersL_ord hl).len
 have hout:out.length≤720:=by rw[i3];exact hle
 have fl:∀m:Nat,((out.take m).flatMap fun l=>(List.range (l.length+1)).map fun a=>(l.take a++[k])++l.drop a).length=(out.take m).length* (k.toNat+1):=fun m=>flat_len fun l hl=>by rw[List.length_map,List.length_range,hord l (List.mem_of_mem_take hl)]
 refine Ret_loop (Inv:=fun x:List (List Int)×Int=>0≤x.2∧x.2≤out.length∧x.1=(out.take x.2.toNat).flatMap fun l=>(List.range (l.length+1)).map fun a=>(l.take a++[k])++l.drop a) (m:=fun x=>((out.length:Int)-x.2).toNat) ?_ _ _ ⟨by simp,by simp,by simp⟩ (by simp only[fuel];omega)
 rintro ⟨nx,i⟩ rec2 ⟨j1,j2,j3⟩ ih2
 simp only at j1 j2 j3 ⊢
 refine Ret_dec (fun hlt2=>?_) fun hge2=>?_
 ·have hnx:nx.length≤5040:=by
   rw[j3,fl]
   have:(out.take i.toNat).length≤720:=by rw[List.length_take];omega
   have:=Nat.mul_le_mul this (show k.toNat+1≤7 by omega)
   omega
  have hin:=inb_t (i:=i) (n:=out.length) (by omega) (by omega)
  have hm:out.getD i.toNat []∈out:=by rw[List.getD,List.getElem?_eq_getElem (by omega)];exact List.getElem_mem _
  have et:out.take (i+1).toNat=out.take i.toNat++[out.getD i.toNat []]:=by
   rw[show(i+1).toNat=i.toNat+1 by omega,List.take_add_one,List.getD,List.getElem?_eq_getElem (by omega)];rfl
  have hlk:=hord _ hm
  generalize out.getD i.toNat []=l at hm et hlk ⊢
  refine Ret_loop (Inv:=fun x:List (List Int)×Int=>0≤x.2∧x.2≤l.length+1∧x.1=nx++(List.range x.2.toNat).map fun a=>(l.take a++[k])++l.drop a) (m:=fun x=>((l.length:Int)+1-x.2).toNat) ?_ _ _ ⟨by simp,by simp;omega,by simp⟩ (by simp only[fuel];omega)
  rintro ⟨nx2,at_⟩ rec3 ⟨k1,k2,k3⟩ ih3
  simp only at k1 k2 k3 ⊢
  refine Ret_chk hin (Ret_dec (fun hlt3=>?_) fun hge3=>?_)
  ·have hn2:nx2.length≤6000:=by rw[k3];simp;omega
   refine Ret_chk hin (Ret_chk (by simp[bnb];omega) (Ret_chk hin (Ret_chk (by simp[bnb];omega) (Ret_chk (lenOk_t (by simp;omega)) (Ret_chk (lenOk_t (by simp;omega)) (Ret_chk (lenOk_t (by simp;omega)) (Ret_chk (lenOk_t (by omega)) (Ret_chk (i64b_t (by omega) (by omega)) (ih3 _ ⟨by simp only;omega,by simp only;omega,?_⟩ (by simp only;omega))))))))))
   simp only
   rw[show(at_+1).toNat=at_.toNat+1 by omega,List.range_succ,List.map_append,k3,List.append_assoc]
   congr 2
   rw[List.drop_zero,List.nil_append,List.take_of_length_le (l:=l.drop at_.toNat) (by simp)]
   rfl
  ·refine Ret_chk (i64b_t (by omega) (by omega)) (ih2 _ ⟨by simp only;omega,by simp only;omega,?_⟩ (by simp only;omega))
   simp only
   rw[et,List.flatMap_append,k3,j3,show at_.toNat=l.length+1 by omega]
   simp
 ·refine Ret_chk (i64b_t (by omega) (by omega)) (ih _ ⟨by simp only;omega,by simp only;omega,?_⟩ (by simp only;omega))
  simp only
  rw[j3,List.take_of_length_le (by omega),show(k+1).toNat=k.toNat+1 by omega,ordersL,i3,show((k.toNat:Nat):Int)=k by omega]
def Free (E:List Int) (n:Nat) (p o:List Int) (i:Int):Prop:=i∉o∧∀k:Int,0≤k→k<n→k∈o∨rkF p i≤rkF p k∨ovl E i.toNat k.toNat=false
structure Greedy (E:List Int) (n:Nat) (p L:List Int):Prop where
 nd:L.Nodup
 rng:In n L
 free:∀m:Nat,m<L.length→Free E n p (L.take m) (L.getD m 0)
 least:∀m:Nat,m<L.length→∀j:Int,0≤j→j<n→Free E n p (L.take m) j→L.getD m 0≤j
theorem law18_EndsFolds_true {a:List Int×List Int} (h1:bytes a.1) (h2:bytes a.2):law18_EndsFolds fuel a=some true:=by
 apply Ret.eq
 unfold law18_EndsFolds
 refine Ret_chk (by simp[bnb];omega) ?_
 rw[List.drop_zero]
 refine Ret_bind (law18_D_len (a:=(a.1.take (min ((a.1.length:Nat):Int) 6).toNat,a.2)) (fun x hx=>h1 x (List.mem_of_mem_take hx)) h2) fun s ⟨hs0,hlen⟩=>?_
 have hs:=hs0.1
 have hl:=hs.len
 simp only[eta,List.length_take] at hlen ⊢
 refine Ret_bind (Ret.of (Folds_ok hs)) fun r hr=>?_
 subst hr
 refine Ret_bind (Ret.of (orders_ok (n:=s.1.length) (by omega))) fun r3 hr3=>?_
 subst hr3
 have hle:=ordersL_le6 (k:=s.1.length) (by omega)
 have dn:(foldS s).2.2.length=0↔∃p,p∈ordersL s.1.length∧chkV s p=0:=by
  show Done s↔_
  rw[done_iff hs]
  exact⟨fun⟨p,a,b⟩=>⟨p,ordersL_mem a,b⟩,fun⟨p,a,b⟩=>⟨p,ordersL_ord a,b⟩⟩
 have hmem:∀i,i< (ordersL s.1.length).length→(ordersL s.1.length).getD i []∈ordersL s.1.length:=fun i hi=>by
  rw[List.getD,List.getElem?_eq_getElem hi];exact List.getElem_mem hi
 have hord:∀p,p∈ordersL s.1.length→Ord s.1.length p:=fun p hp=>ordersL_ord hp
 have hget:∀p,p∈ordersL s.1.length→∃i,i< (ordersL s.1.length).length∧(ordersL s.1.length).getD i []=p:=fun p hp=>by
  obtain⟨i,hi,e⟩:=List.getElem_of_mem hp
  exact⟨i,hi,by rw[List.getD,List.getElem?_eq_getElem hi];exact e⟩
 generalize ordersL s.1.length=L at hle dn hmem hord hget ⊢
 refine Ret_loop (Inv:=fun x:Bool×Int=>0≤x.2∧x.2≤L.length∧(x.1=true→∃p,p∈L∧chkV s p=0)∧(x.1=false→∀i:Nat,(i:Int)<x.2→chkV s (L.getD i [])≠0)) (m:=fun x=>((L.length:Int)-x.2).toNat) ?_ _ _ ⟨by simp,by simp,fun h=>(by cases h),fun _ i hi=>(by simp at hi;omega)⟩ (by simp only[fuel];omega)
 rintro ⟨v,i⟩ rec ⟨i1,i2,i3,i4⟩ ih
 simp only at i1 i2 i3 i4 ⊢
 refine Ret_jn (fun b=>b=(decide (i< (L.length:Int))&& !v)) (fun b hb=>?_) fun j hj=>Ret_dec (fun h=>hj _ (by rw[decide_eq_true h];rfl)) fun h=>hj _ (by rw[decide_eq_false h];rfl)
 subst hb
 refine Ret_bif (fun hc=>?_) fun hc=>?_
 ·rw[Bool.and_eq_true,decide_eq_true_eq] at hc
  obtain⟨hlt,hv⟩:=hc
  have hv:v=false:=by simpa using hv
  have hm:=hmem i.toNat (by omega)
  refine Ret_chk (inb_t (by omega) (by omega)) (Ret_bind (Ret.of (Check_ok hs.1.1 (hord _ hm))) fun r hr=>?_)
  subst hr
  refine Ret_chk (i64b_t (by omega) (by omega)) (ih _ ⟨by simp only;omega,by simp only;omega,fun h=>?_,fun h k hk=>?_⟩ (by simp only;omega))
  ·exact⟨_,hm,by simpa using h⟩
  ·simp only at h hk
   by_cases hki:(k:Int)=i
   ·rw[show k=i.toNat by omega];simpa using h
   ·exact i4 hv k (by omega)
 ·refine Ret_dec (fun _=>?_) fun h=>absurd trivial h
  have hq:decide ((foldS s).2.2.length=0)=v:=by
   cases v with
   | true=>rw[decide_eq_true (dn.2 (i3 rfl))]
   | false=>
     rw[decide_eq_false]
     rintro hd
     obtain⟨p,hp,hp0⟩:=dn.1 hd
     obtain⟨k,hk,rfl⟩:=hget p hp
     have:¬i< (L.length:Int):=fun h=>by rw[decide_eq_true h] at hc;cases hc
     exact i4 rfl k (by omega) hp0
  simp only[hq,beq_self_eq_true,cond_true]
  exact Ret_bind (Ret.of lives18) fun r hr=>Ret_some hr
end X
end Go.Vm
