/-
  Nets: the spots of frames, and the corners.
  Nets: the law NetsSpots.
-/
import Derived.Test.YtahplmacekfjgaaNF
set_option linter.unusedSimpArgs false
set_option linter.unusedVariables false
set_option linter.unusedSectionVars false
set_option linter.unnecessarySimpa false
namespace Go.Vm
namespace X
open W
variable {nn:Nat}
def mnA (f:FrT) (k:Nat):Int:=min (f.2.1.getD k 0) 0+min (f.2.2.getD k 0) 0
def flatA (f:FrT) (k:Nat):Prop:=f.2.1.getD k 0=0∧f.2.2.getD k 0=0
instance (f:FrT) (k:Nat):Decidable (flatA f k):=by unfold flatA;infer_instance
def axF (f:FrT):Nat→Int
 | 0=>0
 | k+1=>if flatA f k then(k:Int) else axF f k
def spF (f:FrT):List Int×Int:=([f.1.getD 0 0+mnA f 0,f.1.getD 1 0+mnA f 1,f.1.getD 2 0+mnA f 2],axF f 3)
theorem wrap_u8 {z:Int} (h:0≤z∧z<3):IntKind.u8.wrap z=z:=by
 rcases(by omega:z=0∨z=1∨z=2) with rfl | rfl | rfl<;>decide
theorem getD_set3 {V:List Int} {j k:Nat} {v:Int} (hV:V.length=3) (hj:j<3):(V.set j v).getD k 0=if k=j then v else V.getD k 0:=getD_setT (by omega)
theorem axF_succ {f:FrT} {i:Int} (h:0≤i):axF f (i+1).toNat=if flatA f i.toNat then i else axF f i.toNat:=by
 rw[show(i+1).toNat=i.toNat+1 by omega,axF]
 split
 ·omega
 ·rfl
structure SpI (f:FrT) (i:Int) (V:List Int) (ax:Int):Prop where
 len:V.length=3
 i0:0≤i
 i3:i≤3
 at_:∀k:Nat,k<3→V.getD k 0=f.1.getD k 0+ (if(k:Int)<i then mnA f k else 0)
 ax:ax=axF f i.toNat
theorem SpI.start {f:FrT} (h:f.1.length=3):SpI f 0 f.1 0:=⟨h,by omega,by omega,fun k hk=>by rw[if_neg (by omega)];omega,rfl⟩
theorem SpI.next {f:FrT} {i:Int} {V:List Int} {ax ax' v:Int} (h:SpI f i V ax) (hi:i<3) (hv:v=f.1.getD i.toNat 0+mnA f i.toNat) (ha:ax'=if flatA f i.toNat then i else ax):SpI f (i+1) (V.set i.toNat v) ax':=by
 have h0:=h.i0
 refine⟨by rw[List.length_set];exact h.len,by omega,by omega,fun k hk=>?_,by rw[axF_succ h0,ha,h.ax]⟩
 rw[getD_set3 h.len (by omega)]
 by_cases e:k=i.toNat
 ·rw[if_pos e,if_pos (by omega),hv,e]
 ·rw[if_neg e,h.at_ k hk]
  by_cases c:(k:Int)<i
  ·rw[if_pos c,if_pos (by omega)]
  ·rw[if_neg c,if_neg (by omega)]
theorem SpI.fin {f:FrT} {i:Int} {V:List Int} {ax:Int} (h:SpI f i V ax) (hi:¬i<3):(V,ax)=spF f:=by
 have e:i=3:=by have:=h.i3;omega
 subst e
 refine Prod.ext ?_ h.ax
 have a0:=h.at_ 0 (by omega);have a1:=h.at_ 1 (by omega);have a2:=h.at_ 2 (by omega)
 rw[if_pos (by omega)] at a0 a1 a2
 exact ext3 h.len rfl a0 a1 a2
structure SmF (f:FrT):Prop where
 len:f.1.length=3
 l1:f.2.1.length=3
 l2:f.2.2.length=3
 a:∀k:Nat,k<3→ -1000≤f.1.getD k 0∧f.1.getD k 0≤1000
 r:∀k:Nat,k<3→ -1≤f.2.1.getD k 0∧f.2.1.getD k 0≤1
 u:∀k:Nat,k<3→ -1≤f.2.2.getD k 0∧f.2.2.getD k 0≤1
theorem FrOK.sm {B:Int} {f:FrT} (h:FrOK B f) (hB:B≤1000):SmF f:=by
 obtain⟨l1,l2⟩:=RU_len _ h.ru
 obtain⟨u1,u2⟩:=RU_unit _ h.ru
 exact⟨h.len,l1,l2,fun k hk=>by have:=h.lo k hk;have:=h.hi k hk;omega,(unit_bd _ u1).2,(unit_bd _ u2).2⟩
theorem fspot_ok {f:FrT} (h:SmF f):nets_Frame_spot (fu nn) f=some (spF f):=by
 apply Ret.eq
 unfold nets_Frame_spot
 rw[eta3 h.l1,eta3 h.l2]
 refine Ret_loop (Inv:=fun s:Int×(Int×(Int×(Int×Int)))=>∃V ax,s=(s.1,(V.getD 0 0,(V.getD 1 0,(V.getD 2 0,ax))))∧SpI f s.1 V ax) (m:=fun s=>(3-s.1).toNat) ?_ _ _ ⟨f.1,0,rfl,SpI.start h.len⟩ (by simp only[fu];omega)
 rintro ⟨i,s⟩ rec ⟨V,ax,e,hI⟩ ih
 simp only[Prod.mk.injEq,true_and] at e
 subst e
 have i0:=hI.i0
 simp only at hI ⊢
 rw[eta3 hI.len]
 refine Ret_dec (fun hlt=>?_) fun hge=>Ret_some (hI.fin hge)
 have ha:=h.a i.toNat (by omega)
 have hr:=h.r i.toNat (by omega)
 have hu:=h.u i.toNat (by omega)
 have hv:=hI.at_ i.toNat (by omega)
 rw[if_neg (by omega),Int.add_zero] at hv
 have hin:=inb_t (i:=i) (n:=3) (by omega) (by omega)
 have nxt:∀ax',ax'=(if flatA f i.toNat then i else ax)→Ret (chk (i64b (i+1)) (rec (i+1,(V.set i.toNat (V.getD i.toNat 0+ (min (f.2.1.getD i.toNat 0) 0+min (f.2.2.getD i.toNat 0) 0))).getD 0 0,(V.set i.toNat (V.getD i.toNat 0+ (min (f.2.1.getD i.toNat 0) 0+min (f.2.2.getD i.toNat 0) 0))).getD 1 0,(V.set i.toNat (V.getD i.toNat 0+ (min (f.2.1.getD i.toNat 0) 0+min (f.2.2.getD i.toNat 0) 0))).getD 2 0,ax'))) fun x=>x=spF f:=fun ax' e=>by
  refine Ret_chk (i64b_t (by omega) (by omega)) (ih _ ⟨_,ax',rfl,hI.next hlt ?_ e⟩ (by simp only;omega))
  rw[hv];rfl
 refine Ret_chk hin (Ret_chk hin (Ret_chk hin (Ret_chk (i64b_t (by omega) (by omega)) (Ret_chk (i64b_t (by omega) (by omega)) (Ret_chk hin (Ret_chk hin (Ret_dec (fun c1=>Ret_chk hin (Ret_dec (fun c2=>?_) fun c2=>?_)) fun c1=>?_)))))))
 ·exact nxt _ (by rw[if_pos ⟨c1,c2⟩,wrap_u8 (by omega)])
 ·exact nxt _ (by rw[if_neg fun c=>c2 c.2])
 ·exact nxt _ (by rw[if_neg fun c=>c1 c.1])
end X
end Go.Vm
namespace Go.Vm
namespace X
open W
variable {nn:Nat}
abbrev SpT:Type:=List Int×Int
abbrev spZ:SpT:=(List.replicate 3 0,0)
theorem spF_len (f:FrT):(spF f).1.length=3:=rfl
theorem eqSp {s t:SpT} (hs:s.1.length=3) (ht:t.1.length=3):(decide (s.1.getD 0 0=t.1.getD 0 0)&&(decide (s.1.getD 1 0=t.1.getD 1 0)&&(decide (s.1.getD 2 0=t.1.getD 2 0)&&decide (s.2=t.2))))=decide (s=t):=by
 rw[Bool.eq_iff_iff]
 simp only[Bool.and_eq_true,decide_eq_true_eq]
 constructor
 ·rintro ⟨h0,h1,h2,h3⟩
  exact Prod.ext (ext3 hs ht h0 h1 h2) h3
 ·rintro rfl
  exact⟨rfl,rfl,rfl,rfl⟩
theorem getD_memSp {L:List SpT} {i:Nat} (h:i<L.length):L.getD i spZ∈L:=by rw[List.getD,List.getElem?_eq_getElem h];exact List.getElem_mem _
theorem containsSp_ok {L:List SpT} (hl:L.length≤10000) (hL:∀s∈L,s.1.length=3) {s:SpT} (hs:s.1.length=3):slices_Contains_nets_Spot (fu nn) (L,s)=some (decide (s∈L)):=by
 have key:Ret (slices_Index_nets_Spot (fu nn) (L,s)) fun r=>decide ((0:Int)≤r)=decide (s∈L):=by
  unfold slices_Index_nets_Spot
  simp only
  refine Ret_loop (Inv:=fun i:Int=>0≤i∧i≤L.length∧∀k:Nat,(k:Int)<i→L.getD k spZ≠s) (m:=fun i=>((L.length:Int)-i).toNat) ?_ _ _ ⟨by simp,by simp,fun k hk=>by omega⟩ (by simp only[fu];omega)
  rintro i rec ⟨i1,i2,i3⟩ ih
  refine Ret_dec (fun hlt=>?_) fun hge=>?_
  ·have hm:=getD_memSp (L:=L) (i:=i.toNat) (by omega)
   rw[show(decide (s.1.getD 0 0=(L.getD i.toNat (List.replicate 3 0,0)).1.getD 0 0)&&(decide (s.1.getD 1 0=(L.getD i.toNat (List.replicate 3 0,0)).1.getD 1 0)&&(decide (s.1.getD 2 0=(L.getD i.toNat (List.replicate 3 0,0)).1.getD 2 0)&&decide (s.2=(L.getD i.toNat (List.replicate 3 0,0)).2))))=decide (s=L.getD i.toNat spZ) from eqSp hs (hL _ hm)]
   refine Ret_chk (inb_t (by omega) (by omega)) (Ret_dec (fun g=>Ret_some ?_) fun g=>Ret_chk (i64b_t (by omega) (by omega)) (ih _ ⟨by omega,by omega,fun k hk=>?_⟩ (by omega)))
   ·rw[decide_eq_true i1,decide_eq_true]
    rw[g];exact hm
   ·by_cases e:(k:Int)=i
    ·rw[show k=i.toNat by omega];exact fun c=>g c.symm
    ·exact i3 k (by omega)
  ·refine Ret_some ?_
   rw[decide_eq_false (by omega),decide_eq_false]
   intro c
   obtain⟨k,hk,e⟩:=List.mem_iff_getElem.1 c
   have:=i3 k (by omega)
   rw[List.getD,List.getElem?_eq_getElem hk] at this
   exact this e
 unfold slices_Contains_nets_Spot
 simp only
 rw[eta3 hs]
 obtain⟨r,e,h⟩:=key
 rw[show slices_Index_nets_Spot (fu nn) (L,s.1,s.2)=some r from e,Option.bind_some,h]
theorem appCap_fit {c n:Nat} (h:n≤c):appCap (some c) n=some c:=by
 unfold appCap
 simp only
 rw[show n.ble c=true from Nat.ble_eq_true_of_le h]
 rfl
def spotsR (O:List FrT):List SpT×Int:=if(O.map spF).Nodup then(O.map spF,0) else([],12)
theorem Spots_ok {S:List SqT} {H:List HgT} {O:List FrT} (hp:nets_Place (fu nn) (S,H)=some (O,0)) (hO:∀i:Nat,i<O.length→SmF (O.getD i frZ)) (hl:O.length≤1000):nets_Spots (fu nn) (S,H)=some (spotsR O):=by
 apply Ret.eq
 unfold nets_Spots
 rw[show nets_Place (fu nn) ((S,H).1,(S,H).2)=some (O,0) from hp,Option.bind_some]
 refine Ret_dec (fun g=>absurd rfl g) fun _=>Ret_chk (by simp only[Bool.and_eq_true,decide_eq_true_eq];omega) ?_
 refine Ret_loop (Inv:=fun s:((List SpT×Nat)×Int)=>0≤s.2∧s.2≤O.length∧s.1.1=(O.map spF).take s.2.toNat∧s.1.2=O.length∧((O.map spF).take s.2.toNat).Nodup) (m:=fun s=>((O.length:Int)-s.2).toNat) ?_ _ _ ⟨by simp,by simp,by simp,rfl,by simp⟩ (by simp only[fu];omega)
 rintro ⟨⟨L,c⟩,i⟩ rec ⟨i1,i2,i3,i4,i5⟩ ih
 simp only at i1 i2 i3 i4 i5 ⊢
 subst i3
 subst i4
 have hlen:((O.map spF).take i.toNat).length=i.toNat:=by rw[List.length_take,List.length_map];omega
 refine Ret_dec (fun hlt=>?_) fun hge=>?_
 ·have sm:=hO i.toNat (by omega)
  have eO:O.getD i.toNat frZ=O[i.toNat]'(by omega):=by rw[List.getD,List.getElem?_eq_getElem (by omega)];rfl
  have snoc:(O.map spF).take (i+1).toNat=(O.map spF).take i.toNat++[spF (O.getD i.toNat frZ)]:=by
   rw[show(i+1).toNat=i.toNat+1 by omega,List.take_add_one,List.getElem?_map,List.getElem?_eq_getElem (by omega),eO]
   rfl
  change Ret (chk _ ((nets_Frame_spot (fu nn) ([(O.getD i.toNat frZ).1.getD 0 0,(O.getD i.toNat frZ).1.getD 1 0,(O.getD i.toNat frZ).1.getD 2 0],([(O.getD i.toNat frZ).2.1.getD 0 0,(O.getD i.toNat frZ).2.1.getD 1 0,(O.getD i.toNat frZ).2.1.getD 2 0],[(O.getD i.toNat frZ).2.2.getD 0 0,(O.getD i.toNat frZ).2.2.getD 1 0,(O.getD i.toNat frZ).2.2.getD 2 0]))).bind _)) _
  generalize O.getD i.toNat frZ=f at *
  rw[eta3 sm.len,eta3 sm.l1,eta3 sm.l2,show nets_Frame_spot (fu nn) (f.1,f.2.1,f.2.2)=some (spF f) from fspot_ok sm,Option.bind_some,eta3 (spF_len f),show slices_Contains_nets_Spot (fu nn) ((O.map spF).take i.toNat,(spF f).1,(spF f).2)=some (decide (spF f∈(O.map spF).take i.toNat)) from containsSp_ok (by omega) (fun s hs=>by
   obtain⟨g,_,rfl⟩:=List.mem_map.1 (List.mem_of_mem_take hs)
   rfl) (spF_len f),Option.bind_some]
  refine Ret_chk (inb_t (by omega) (by omega)) (Ret_dec (fun g=>Ret_some ?_) fun g=>?_)
  ·unfold spotsR
   rw[if_neg]
   intro hn
   have hs:=hn.sublist (List.take_sublist (i+1).toNat _)
   rw[snoc,List.nodup_append] at hs
   exact hs.2.2 _ g _ (by simp) rfl
  ·have e1:((O.map spF).take i.toNat).length+1≤O.length:=by omega
   rw[appCap_fit e1]
   refine Ret_chk (lenOk_t (by omega)) (Ret_chk (i64b_t (by omega) (by omega)) (Ret_chk rfl (ih _ ⟨by simp only;omega,by simp only;omega,?_,rfl,?_⟩ (by simp only;omega))))
   ·exact snoc.symm
   ·simp only
    rw[snoc,List.nodup_append]
    exact⟨i5,by simp,fun x hx y hy e=>by rw[List.mem_singleton.1 hy] at e;rw[e] at hx;exact g hx⟩
 ·have e:(O.map spF).take i.toNat=O.map spF:=List.take_of_length_le (by rw[List.length_map];omega)
  rw[e] at i5 ⊢
  refine Ret_chk (by simp[capIs]) (Ret_some ?_)
  unfold spotsR
  rw[if_pos i5]
end X
end Go.Vm
