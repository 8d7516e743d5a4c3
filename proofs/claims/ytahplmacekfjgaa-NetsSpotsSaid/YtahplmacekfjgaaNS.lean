/-
  Nets: the spots of frames, and the corners.
  Nets: the law NetsSpots.
-/
import Derived.Test.YtahplmacekfjgaaNF
set_option linter.unusedSimpArgs false
set_option linter.unusedVariables false
set_option linter.unusedSectionVars false
set_option linter.unnecessarySimpa false
namespace Go.Vm
namespace X
open W
variable {nn:Nat}
def mnA (f:FrT) (k:Nat):Int:=min (f.2.1.getD k 0) 0+min (f.2.2.getD k 0) 0
def flatA (f:FrT) (k:Nat):Prop:=f.2.1.getD k 0=0∧f.2.2.getD k 0=0
instance (f:FrT) (k:Nat):Decidable (flatA f k):=by unfold flatA;infer_instance
def axF (f:FrT):Nat→Int
 | 0=>0
 | k+1=>if flatA f k then(k:Int) else axF f k
def spF (f:FrT):List Int×Int:=([f.1.getD 0 0+mnA f 0,f.1.getD 1 0+mnA f 1,f.1.getD 2 0+mnA f 2],axF f 3)
theorem wrap_u8 {z:Int} (h:0≤z∧z<3):IntKind.u8.wrap z=z:=by
 rcases(by omega:z=0∨z=1∨z=2) with rfl | rfl | rfl<;>decide
theorem getD_set3 {V:List Int} {j k:Nat} {v:Int} (hV:V.length=3) (hj:j<3):(V.set j v).getD k 0=if k=j then v else V.getD k 0:=getD_setT (by omega)
theorem axF_succ {f:FrT} {i:Int} (h:0≤i):axF f (i+1).toNat=if flatA f i.toNat then i else axF f i.toNat:=by
 rw[show(i+1).toNat=i.toNat+1 by omega,axF]
 split
 ·omega
 ·rfl
structure SpI (f:FrT) (i:Int) (V:List Int) (ax:Int):Prop where
 len:V.length=3
 i0:0≤i
 i3:i≤3
 at_:∀k:Nat,k<3→V.getD k 0=f.1.getD k 0+ (if(k:Int)<i then mnA f k else 0)
 ax:ax=axF f i.toNat
theorem SpI.start {f:FrT} (h:f.1.length=3):SpI f 0 f.1 0:=⟨h,by omega,by omega,fun k hk=>by rw[if_neg (by omega)];omega,rfl⟩
theorem SpI.next {f:FrT} {i:Int} {V:List Int} {ax ax' v:Int} (h:SpI f i V ax) (hi:i<3) (hv:v=f.1.getD i.toNat 0+mnA f i.toNat) (ha:ax'=if flatA f i.toNat then i else ax):SpI f (i+1) (V.set i.toNat v) ax':=by
 have h0:=h.i0
 refine⟨by rw[List.length_set];exact h.len,by omega,by omega,fun k hk=>?_,by rw[axF_succ h0,ha,h.ax]⟩
 rw[getD_set3 h.len (by omega)]
 by_cases e:k=i.toNat
 ·rw[if_pos e,if_pos (by omega),hv,e]
 ·rw[if_neg e,h.at_ k hk]
  by_cases c:(k:Int)<i
  ·rw[if_pos c,if_pos (by omega)]
  ·rw[if_neg c,if_neg (by omega)]
theorem SpI.fin {f:FrT} {i:Int} {V:List Int} {ax:Int} (h:SpI f i V ax) (hi:¬i<3):(V,ax)=spF f:=by
 have e:i=3:=by have:=h.i3;omega
 subst e
 refine Prod.ext ?_ h.ax
 have a0:=h.at_ 0 (by omega);have a1:=h.at_ 1 (by omega);have a2:=h.at_ 2 (by omega)
 rw[if_pos (by omega)] at a0 a1 a2
 exact ext3 h.len rfl a0 a1 a2
structure SmF (f:FrT):Prop where
 len:f.1.length=3
 l1:f.2.1.length=3
 l2:f.2.2.length=3
 a:∀k:Nat,k<3→ -1000≤f.1.getD k 0∧f.1.getD k 0≤1000
 r:∀k:Nat,k<3→ -1≤f.2.1.getD k 0∧f.2.1.getD k 0≤1
 u:∀k:Nat,k<3→ -1≤f.2.2.getD k 0∧f.2.2.getD k 0≤1
theorem FrOK.sm {B:Int} {f:FrT} (h:FrOK B f) (hB:B≤1000):SmF f:=by
 obtain⟨l1,l2⟩:=RU_len _ h.ru
 obtain⟨u1,u2⟩:=RU_unit _ h.ru
 exact⟨h.len,l1,l2,fun k hk=>by have:=h.lo k hk;have:=h.hi k hk;omega,(unit_bd _ u1).2,(unit_bd _ u2).2⟩
theorem fspot_ok {f:FrT} (h:SmF f):nets_Frame_spot (fu nn) f=some (spF f):=by
 apply Ret.eq
 unfold nets_Frame_spot
 rw[eta3 h.l1,eta3 h.l2]
 refine Ret_loop (Inv:=fun s:Int×(Int×(Int×(Int×Int)))=>∃V ax,s=(s.1,(V.getD 0 0,(V.getD 1 0,(V.getD 2 0,ax))))∧SpI f s.1 V ax) (m:=fun s=>(3-s.1).toNat) ?_ _ _ ⟨f.1,0,rfl,SpI.start h.len⟩ (by simp only[fu];omega)
 rintro ⟨i,s⟩ rec ⟨V,ax,e,hI⟩ ih
 simp only[Prod.mk.injEq,true_and] at e
 subst e
 have i0:=hI.i0
 simp only at hI ⊢
 rw[eta3 hI.len]
 refine Ret_dec (fun hlt=>?_) fun hge=>Ret_some (hI.fin hge)
 have ha:=h.a i.toNat (by omega)
 have hr:=h.r i.toNat (by omega)
 have hu:=h.u i.toNat (by omega)
 have hv:=hI.at_ i.toNat (by omega)
 rw[if_neg (by omega),Int.add_zero] at hv
 have hin:=inb_t (i:=i) (n:=3) (by omega) (by omega)
 have nxt:∀ax',ax'=(if flatA f i.toNat then i else ax)→Ret (chk (i64b (i+1)) (rec (i+1,(V.set i.toNat (V.getD i.toNat 0+ (min (f.2.1.getD i.toNat 0) 0+min (f.2.2.getD i.toNat 0) 0))).getD 0 0,(V.set i.toNat (V.getD i.toNat 0+ (min (f.2.1.getD i.toNat 0) 0+min (f.2.2.getD i.toNat 0) 0))).getD 1 0,(V.set i.toNat (V.getD i.toNat 0+ (min (f.2.1.getD i.toNat 0) 0+min (f.2.2.getD i.toNat 0) 0))).getD 2 0,ax'))) fun x=>x=spF f:=fun ax' e=>by
  refine Ret_chk (i64b_t (by omega) (by omega)) (ih _ ⟨_,ax',rfl,hI.next hlt ?_ e⟩ (by simp only;omega))
  rw[hv];rfl
 refine Ret_chk hin (Ret_chk hin (Ret_chk hin (Ret_chk (i64b_t (by omega) (by omega)) (Ret_chk (i64b_t (by omega) (by omega)) (Ret_chk hin (Ret_chk hin (Ret_dec (fun c1=>Ret_chk hin (Ret_dec (fun c2=>?_) fun c2=>?_)) fun c1=>?_)))))))
 ·exact nxt _ (by rw[if_pos ⟨c1,c2⟩,wrap_u8 (by omega)])
 ·exact nxt _ (by rw[if_neg fun c=>c2 c.2])
 ·exact nxt _ (by rw[if_neg fun c=>c1 c.1])
def cor (f:FrT):List (List Int):=[f.1,vadd f.1 f.2.1 1,vadd f.1 f.2.2 1,vadd (vadd f.1 f.2.1 1) f.2.2 1]
theorem corners_ok {f:FrT} (h:SmF f):law38_corners (fu nn) f=some (cor f):=by
 have ha:∀i:Nat,i<3→ -1000000≤f.1.getD i 0∧f.1.getD i 0≤1000000:=fun i hi=>by have:=h.a i hi;omega
 have ha2:∀i:Nat,i<3→ -1000000≤(vadd f.1 f.2.1 1).getD i 0∧(vadd f.1 f.2.1 1).getD i 0≤1000000:=fun i hi=>by
  rw[vadd_at i hi]
  have:=h.a i hi;have:=h.r i hi;omega
 unfold law38_corners
 rw[eta3 h.len,eta3 h.l1,eta3 h.l2,added_ok ha h.r (.inl rfl),Option.bind_some,added_ok ha h.u (.inl rfl),Option.bind_some,Option.bind_some,added_ok ha2 h.u (.inl rfl),Option.bind_some,eta3 vadd_len,eta3 vadd_len,eta3 vadd_len]
 rfl
theorem cor_at {f:FrT} (p j:Nat) (hp:p<4) (hj:j<3):((cor f).getD p (List.replicate 3 0)).getD j 0=f.1.getD j 0+ (if p=1∨p=3 then f.2.1.getD j 0 else 0)+ (if p=2∨p=3 then f.2.2.getD j 0 else 0):=by
 rcases(by omega:p=0∨p=1∨p=2∨p=3) with rfl | rfl | rfl | rfl
 ·show f.1.getD j 0=_
  simp
 ·show(vadd f.1 f.2.1 1).getD j 0=_
  rw[vadd_at j hj];simp
 ·show(vadd f.1 f.2.2 1).getD j 0=_
  rw[vadd_at j hj];simp
 ·show(vadd (vadd f.1 f.2.1 1) f.2.2 1).getD j 0=_
  rw[vadd_at j hj,vadd_at j hj];simp
set_option maxHeartbeats 1000000 in
theorem lspot_ok {f:FrT} (h:SmF f):law38_spot (fu nn) f=some (spF f):=by
 apply Ret.eq
 unfold law38_spot
 rw[eta3 h.len,eta3 h.l1,eta3 h.l2,show law38_corners (fu nn) (f.1,f.2.1,f.2.2)=some (cor f) from corners_ok h,Option.bind_some]
 have st:(cor f).getD 0 (List.replicate 3 0)=f.1:=rfl
 rw[st]
 refine Ret_loop (Inv:=fun s:Int×(Int×(Int×(Int×Int)))=>∃V ax,s=(s.1,(V.getD 0 0,(V.getD 1 0,(V.getD 2 0,ax))))∧SpI f s.1 V ax) (m:=fun s=>(3-s.1).toNat) ?_ _ _ ⟨f.1,0,rfl,SpI.start h.len⟩ (by simp only[fu];omega)
 rintro ⟨i,s⟩ rec ⟨V,ax,e,hI⟩ ih
 simp only[Prod.mk.injEq,true_and] at e
 subst e
 have i0:=hI.i0
 simp only at hI ⊢
 rw[eta3 hI.len]
 refine Ret_dec (fun hlt=>?_) fun hge=>Ret_some (hI.fin hge)
 have hj:i.toNat<3:=by omega
 have ha:=h.a i.toNat hj
 have hr:=h.r i.toNat hj
 have hu:=h.u i.toNat hj
 have hv:=hI.at_ i.toNat hj
 rw[if_neg (by omega),Int.add_zero] at hv
 have hin:=inb_t (i:=i) (n:=3) (by omega) (by omega)
 refine Ret_loop (Inv:=fun t:Bool×(Int×(Int×(Int×(Int×Int))))=>∃v,t.2=(t.2.1,((V.set i.toNat v).getD 0 0,((V.set i.toNat v).getD 1 0,((V.set i.toNat v).getD 2 0,ax))))∧0≤t.2.1∧t.2.1≤4∧
  (t.2.1≤1→v=f.1.getD i.toNat 0)∧(t.2.1=2→v=f.1.getD i.toNat 0+min (f.2.1.getD i.toNat 0) 0)∧(t.2.1=3→v=f.1.getD i.toNat 0+min (min (f.2.1.getD i.toNat 0) 0) (f.2.2.getD i.toNat 0))∧(t.2.1=4→v=f.1.getD i.toNat 0+mnA f i.toNat)∧
  (t.1=true↔(2≤t.2.1→f.2.1.getD i.toNat 0=0)∧(3≤t.2.1→f.2.2.getD i.toNat 0=0))) (m:=fun t=>(4-t.2.1).toNat) ?_ _ _ ⟨f.1.getD i.toNat 0,?_,by simp,by simp,fun _=>rfl,fun c=>by simp at c,fun c=>by simp at c,fun c=>by simp at c,by simp⟩ (by simp only[fu];omega)
 rotate_left
 ·have:V.set i.toNat (f.1.getD i.toNat 0)=V:=by
   refine List.ext_getElem (by simp) fun k h1 h2=>?_
   rw[List.getElem_set]
   split
   ·rename_i e
    subst e
    rw[←hv,List.getD,List.getElem?_eq_getElem h2];rfl
   ·rfl
  rw[this]
 rintro ⟨fl,p,t⟩ rec2 ⟨v,e,p0,p4,v1,v2,v3,v4,hfl⟩ ih2
 simp only[Prod.mk.injEq,true_and] at e
 subst e
 simp only at p0 p4 v1 v2 v3 v4 hfl ⊢
 have wl:(V.set i.toNat v).length=3:=by rw[List.length_set];exact hI.len
 rw[eta3 wl,show(V.set i.toNat v).getD i.toNat 0=v by rw[getD_set3 hI.len hj,if_pos rfl],List.set_set]
 refine Ret_dec (fun hp=>?_) fun hp=>?_
 ·have hin4:=inb_t (i:=p) (n:=4) (by omega) (by omega)
  have ca:=cor_at (f:=f) p.toNat i.toNat (by omega) hj
  generalize ((cor f).getD p.toNat (List.replicate 3 0)).getD i.toNat 0=cc at *
  have nxt:∀fl':Bool,(fl'=true↔fl=true∧cc=f.1.getD i.toNat 0)→Ret (chk (i64b (p+1)) (rec2 (fl',p+1,(V.set i.toNat (min v cc)).getD 0 0,(V.set i.toNat (min v cc)).getD 1 0,(V.set i.toNat (min v cc)).getD 2 0,ax))) fun x=>x=spF f:=fun fl' e=>by
   refine Ret_chk (i64b_t (by omega) (by omega)) (ih2 _ ⟨min v cc,rfl,by simp only;omega,by simp only;omega,?_,?_,?_,?_,?_⟩ (by simp only;omega))
   all_goals clear ih ih2
   all_goals simp only
   ·intro hq
    have:p=0:=by omega
    subst this
    rw[if_neg (by omega),if_neg (by omega)] at ca
    have:=v1 (by omega)
    omega
   ·intro hq
    have:p=1:=by omega
    subst this
    rw[if_pos (by simp),if_neg (by simp)] at ca
    have:=v1 (by omega)
    omega
   ·intro hq
    have:p=2:=by omega
    subst this
    rw[if_neg (by simp),if_pos (by simp)] at ca
    have:=v2 (by omega)
    omega
   ·intro hq
    have:p=3:=by omega
    subst this
    rw[if_pos (by simp),if_pos (by simp)] at ca
    have:=v3 (by omega)
    unfold mnA
    omega
   ·rw[e,hfl]
    rcases(by omega:p=0∨p=1∨p=2∨p=3) with rfl | rfl | rfl | rfl
    ·rw[if_neg (by simp),if_neg (by simp)] at ca
     constructor<;>intro hh<;>omega
    ·rw[if_pos (by simp),if_neg (by simp)] at ca
     constructor
     ·rintro ⟨_,hh⟩
      exact⟨fun _=>by omega,fun c=>by omega⟩
     ·rintro ⟨hh,_⟩
      have:=hh (by omega)
      exact⟨⟨fun c=>by omega,fun c=>by omega⟩,by omega⟩
    ·rw[if_neg (by simp),if_pos (by simp)] at ca
     constructor
     ·rintro ⟨⟨g1,_⟩,hh⟩
      exact⟨fun _=>g1 (by omega),fun c=>by omega⟩
     ·rintro ⟨g1,hh⟩
      have:=hh (by omega)
      exact⟨⟨fun _=>g1 (by omega),fun c=>by omega⟩,by omega⟩
    ·rw[if_pos (by simp),if_pos (by simp)] at ca
     constructor
     ·rintro ⟨⟨g1,g2⟩,hh⟩
      exact⟨fun _=>g1 (by omega),fun _=>g2 (by omega)⟩
     ·rintro ⟨g1,g2⟩
      have h1:=g1 (by omega)
      have h2:=g2 (by omega)
      exact⟨⟨fun _=>h1,fun _=>h2⟩,by omega⟩
  refine Ret_chk hin (Ret_chk hin4 (Ret_chk hin (Ret_chk hin (Ret_bif (fun c=>?_) fun c=>?_))))
  ·exact Ret_chk hin4 (Ret_chk hin (Ret_chk hin (nxt _ (by rw[decide_eq_true_eq];exact⟨fun g=>⟨c,g⟩,fun g=>g.2⟩))))
  ·exact nxt _ ⟨fun g=>(by cases g),fun g=>(by rw[c] at g;cases g.1)⟩
 ·have e4:p=4:=by omega
  subst e4
  have vv:=v4 rfl
  have ff:fl=true↔flatA f i.toNat:=by
   rw[hfl]
   unfold flatA
   exact⟨fun g=>⟨g.1 (by omega),g.2 (by omega)⟩,fun g=>⟨fun _=>g.1,fun _=>g.2⟩⟩
  refine Ret_bif (fun c=>Ret_chk (i64b_t (by omega) (by omega)) (ih _ ⟨_,_,rfl,hI.next hlt vv ?_⟩ (by simp only;omega))) fun c=>Ret_chk (i64b_t (by omega) (by omega)) (ih _ ⟨_,_,rfl,hI.next hlt vv ?_⟩ (by simp only;omega))
  ·rw[if_pos (ff.1 c),wrap_u8 (by omega)]
  ·rw[if_neg fun g=>by rw[ff.2 g] at c;cases c]
end X
end Go.Vm
namespace Go.Vm
namespace X
open W
variable {nn:Nat}
abbrev SpT:Type:=List Int×Int
abbrev spZ:SpT:=(List.replicate 3 0,0)
theorem spF_len (f:FrT):(spF f).1.length=3:=rfl
theorem eqSp {s t:SpT} (hs:s.1.length=3) (ht:t.1.length=3):(decide (s.1.getD 0 0=t.1.getD 0 0)&&(decide (s.1.getD 1 0=t.1.getD 1 0)&&(decide (s.1.getD 2 0=t.1.getD 2 0)&&decide (s.2=t.2))))=decide (s=t):=by
 rw[Bool.eq_iff_iff]
 simp only[Bool.and_eq_true,decide_eq_true_eq]
 constructor
 ·rintro ⟨h0,h1,h2,h3⟩
  exact Prod.ext (ext3 hs ht h0 h1 h2) h3
 ·rintro rfl
  exact⟨rfl,rfl,rfl,rfl⟩
theorem getD_memSp {L:List SpT} {i:Nat} (h:i<L.length):L.getD i spZ∈L:=by rw[List.getD,List.getElem?_eq_getElem h];exact List.getElem_mem _
theorem containsSp_ok {L:List SpT} (hl:L.length≤10000) (hL:∀s∈L,s.1.length=3) {s:SpT} (hs:s.1.length=3):slices_Contains_nets_Spot (fu nn) (L,s)=some (decide (s∈L)):=by
 have key:Ret (slices_Index_nets_Spot (fu nn) (L,s)) fun r=>decide ((0:Int)≤r)=decide (s∈L):=by
  unfold slices_Index_nets_Spot
  simp only
  refine Ret_loop (Inv:=fun i:Int=>0≤i∧i≤L.length∧∀k:Nat,(k:Int)<i→L.getD k spZ≠s) (m:=fun i=>((L.length:Int)-i).toNat) ?_ _ _ ⟨by simp,by simp,fun k hk=>by omega⟩ (by simp only[fu];omega)
  rintro i rec ⟨i1,i2,i3⟩ ih
  refine Ret_dec (fun hlt=>?_) fun hge=>?_
  ·have hm:=getD_memSp (L:=L) (i:=i.toNat) (by omega)
   rw[show(decide (s.1.getD 0 0=(L.getD i.toNat (List.replicate 3 0,0)).1.getD 0 0)&&(decide (s.1.getD 1 0=(L.getD i.toNat (List.replicate 3 0,0)).1.getD 1 0)&&(decide (s.1.getD 2 0=(L.getD i.toNat (List.replicate 3 0,0)).1.getD 2 0)&&decide (s.2=(L.getD i.toNat (List.replicate 3 0,0)).2))))=decide (s=L.getD i.toNat spZ) from eqSp hs (hL _ hm)]
   refine Ret_chk (inb_t (by omega) (by omega)) (Ret_dec (fun g=>Ret_some ?_) fun g=>Ret_chk (i64b_t (by omega) (by omega)) (ih _ ⟨by omega,by omega,fun k hk=>?_⟩ (by omega)))
   ·rw[decide_eq_true i1,decide_eq_true]
    rw[g];exact hm
   ·by_cases e:(k:Int)=i
    ·rw[show k=i.toNat by omega];exact fun c=>g c.symm
    ·exact i3 k (by omega)
  ·refine Ret_some ?_
   rw[decide_eq_false (by omega),decide_eq_false]
   intro c
   obtain⟨k,hk,e⟩:=List.mem_iff_getElem.1 c
   have:=i3 k (by omega)
   rw[List.getD,List.getElem?_eq_getElem hk] at this
   exact this e
 unfold slices_Contains_nets_Spot
 simp only
 rw[eta3 hs]
 obtain⟨r,e,h⟩:=key
 rw[show slices_Index_nets_Spot (fu nn) (L,s.1,s.2)=some r from e,Option.bind_some,h]
theorem appCap_fit {c n:Nat} (h:n≤c):appCap (some c) n=some c:=by
 unfold appCap
 simp only
 rw[show n.ble c=true from Nat.ble_eq_true_of_le h]
 rfl
def spotsR (O:List FrT):List SpT×Int:=if(O.map spF).Nodup then(O.map spF,0) else([],12)
theorem Spots_ok {S:List SqT} {H:List HgT} {O:List FrT} (hp:nets_Place (fu nn) (S,H)=some (O,0)) (hO:∀i:Nat,i<O.length→SmF (O.getD i frZ)) (hl:O.length≤1000):nets_Spots (fu nn) (S,H)=some (spotsR O):=by
 apply Ret.eq
 unfold nets_Spots
 rw[show nets_Place (fu nn) ((S,H).1,(S,H).2)=some (O,0) from hp,Option.bind_some]
 refine Ret_dec (fun g=>absurd rfl g) fun _=>Ret_chk (by simp only[Bool.and_eq_true,decide_eq_true_eq];omega) ?_
 refine Ret_loop (Inv:=fun s:((List SpT×Nat)×Int)=>0≤s.2∧s.2≤O.length∧s.1.1=(O.map spF).take s.2.toNat∧s.1.2=O.length∧((O.map spF).take s.2.toNat).Nodup) (m:=fun s=>((O.length:Int)-s.2).toNat) ?_ _ _ ⟨by simp,by simp,by simp,rfl,by simp⟩ (by simp only[fu];omega)
 rintro ⟨⟨L,c⟩,i⟩ rec ⟨i1,i2,i3,i4,i5⟩ ih
 simp only at i1 i2 i3 i4 i5 ⊢
 subst i3
 subst i4
 have hlen:((O.map spF).take i.toNat).length=i.toNat:=by rw[List.length_take,List.length_map];omega
 refine Ret_dec (fun hlt=>?_) fun hge=>?_
 ·have sm:=hO i.toNat (by omega)
  have eO:O.getD i.toNat frZ=O[i.toNat]'(by omega):=by rw[List.getD,List.getElem?_eq_getElem (by omega)];rfl
  have snoc:(O.map spF).take (i+1).toNat=(O.map spF).take i.toNat++[spF (O.getD i.toNat frZ)]:=by
   rw[show(i+1).toNat=i.toNat+1 by omega,List.take_add_one,List.getElem?_map,List.getElem?_eq_getElem (by omega),eO]
   rfl
  change Ret (chk _ ((nets_Frame_spot (fu nn) ([(O.getD i.toNat frZ).1.getD 0 0,(O.getD i.toNat frZ).1.getD 1 0,(O.getD i.toNat frZ).1.getD 2 0],([(O.getD i.toNat frZ).2.1.getD 0 0,(O.getD i.toNat frZ).2.1.getD 1 0,(O.getD i.toNat frZ).2.1.getD 2 0],[(O.getD i.toNat frZ).2.2.getD 0 0,(O.getD i.toNat frZ).2.2.getD 1 0,(O.getD i.toNat frZ).2.2.getD 2 0]))).bind _)) _
  generalize O.getD i.toNat frZ=f at *
  rw[eta3 sm.len,eta3 sm.l1,eta3 sm.l2,show nets_Frame_spot (fu nn) (f.1,f.2.1,f.2.2)=some (spF f) from fspot_ok sm,Option.bind_some,eta3 (spF_len f),show slices_Contains_nets_Spot (fu nn) ((O.map spF).take i.toNat,(spF f).1,(spF f).2)=some (decide (spF f∈(O.map spF).take i.toNat)) from containsSp_ok (by omega) (fun s hs=>by
   obtain⟨g,_,rfl⟩:=List.mem_map.1 (List.mem_of_mem_take hs)
   rfl) (spF_len f),Option.bind_some]
  refine Ret_chk (inb_t (by omega) (by omega)) (Ret_dec (fun g=>Ret_some ?_) fun g=>?_)
  ·unfold spotsR
   rw[if_neg]
   intro hn
   have hs:=hn.sublist (List.take_sublist (i+1).toNat _)
   rw[snoc,List.nodup_append] at hs
   exact hs.2.2 _ g _ (by simp) rfl
  ·have e1:((O.map spF).take i.toNat).length+1≤O.length:=by omega
   rw[appCap_fit e1]
   refine Ret_chk (lenOk_t (by omega)) (Ret_chk (i64b_t (by omega) (by omega)) (Ret_chk rfl (ih _ ⟨by simp only;omega,by simp only;omega,?_,rfl,?_⟩ (by simp only;omega))))
   ·exact snoc.symm
   ·simp only
    rw[snoc,List.nodup_append]
    exact⟨i5,by simp,fun x hx y hy e=>by rw[List.mem_singleton.1 hy] at e;rw[e] at hx;exact g hx⟩
 ·have e:(O.map spF).take i.toNat=O.map spF:=List.take_of_length_le (by rw[List.length_map];omega)
  rw[e] at i5 ⊢
  refine Ret_chk (by simp[capIs]) (Ret_some ?_)
  unfold spotsR
  rw[if_pos i5]
def cntC (A B:List (List Int)):Nat:=(A.map fun x=>B.countP fun y=>decide (x=y)).sum
theorem cnt_map {φ:List Int→List Int} {A B:List (List Int)} (h:∀x∈A,∀y∈B,φ x=φ y→x=y):cntC (A.map φ) (B.map φ)=cntC A B:=by
 unfold cntC
 rw[List.map_map]
 congr 1
 refine List.map_congr_left fun x hx=>?_
 simp only[Function.comp]
 rw[List.countP_map]
 refine List.countP_congr fun y hy=>?_
 simp only[Function.comp,decide_eq_true_eq]
 exact⟨h x hx y hy,fun e=>by rw[e]⟩
theorem cor_shift {f:FrT} (h:f.1.length=3):cor f=(cor ([0,0,0],f.2)).map fun o=>vadd f.1 o 1:=by
 obtain⟨a,r,u⟩:=f
 unfold cor
 simp only[List.map_cons,List.map_nil,List.cons.injEq,and_true]
 refine⟨ext3 h rfl ?_ ?_ ?_,ext3 rfl rfl ?_ ?_ ?_,ext3 rfl rfl ?_ ?_ ?_,ext3 rfl rfl ?_ ?_ ?_⟩<;>simp[vadd]<;>omega
theorem ov_shift {f:FrT} {h:HgT}:cor (ovF f h)=(cor (ovF ([0,0,0],f.2) h)).map fun o=>vadd f.1 o 1:=by
 obtain⟨a,r,u⟩:=f
 unfold ovF
 by_cases c:h.2.1=true
 ·simp only[if_pos c]
  unfold cor
  simp only[List.map_cons,List.map_nil,List.cons.injEq,and_true]
  refine⟨ext3 rfl rfl ?_ ?_ ?_,ext3 rfl rfl ?_ ?_ ?_,ext3 rfl rfl ?_ ?_ ?_,ext3 rfl rfl ?_ ?_ ?_⟩<;>simp[vadd]<;>omega
 ·simp only[if_neg c]
  unfold cor
  simp only[List.map_cons,List.map_nil,List.cons.injEq,and_true]
  refine⟨ext3 rfl rfl ?_ ?_ ?_,ext3 rfl rfl ?_ ?_ ?_,ext3 rfl rfl ?_ ?_ ?_,ext3 rfl rfl ?_ ?_ ?_⟩<;>simp[vadd]<;>omega
theorem cor_RU:∀p∈RU,∀b∈bends,∀u:Bool,cntC (cor ([0,0,0],p)) (cor (ovF ([0,0,0],p) ((0,0),(u,b))))=2:=by decide +kernel
theorem cor_len:∀f:FrT,f.1.length=3→∀x∈cor f,x.length=3:=fun f h x hx=>by
 simp only[cor,List.mem_cons,List.not_mem_nil,or_false] at hx
 rcases hx with rfl | rfl | rfl | rfl
 ·exact h
 all_goals rfl
theorem ovF_len {f:FrT} {h:HgT}:(ovF f h).1.length=3:=by unfold ovF;split<;>rfl
theorem cnt_cor {B:Int} {f:FrT} {h:HgT} (hf:FrOK B f) (hb: -1≤h.2.2∧h.2.2≤1):cntC (cor f) (cor (ovF f h))=2:=by
 rw[cor_shift hf.len,ov_shift,cnt_map fun x hx y hy e=>?_]
 ·have:=cor_RU _ hf.ru _ (mem_bends hb) h.2.1
  have e:ovF ([0,0,0],f.2) h=ovF ([0,0,0],f.2) ((0,0),(h.2.1,h.2.2)):=rfl
  rw[e];exact this
 ·have lx:=cor_len _ (by rfl) x hx
  have ly:=cor_len _ ovF_len y hy
  have e0:=congrArg (fun l=>l.getD 0 0) e
  have e1:=congrArg (fun l=>l.getD 1 0) e
  have e2:=congrArg (fun l=>l.getD 2 0) e
  simp only[vadd_at _ (show 0<3 by decide),vadd_at _ (show 1<3 by decide),vadd_at _ (show 2<3 by decide)] at e0 e1 e2
  exact ext3 lx ly (by omega) (by omega) (by omega)
theorem sum_take_succ {L:List Nat} {n:Nat} (h:n<L.length):(L.take (n+1)).sum=(L.take n).sum+L[n]:=by
 rw[List.take_add_one,List.getElem?_eq_getElem h,List.sum_append]
 simp[List.sum_cons,List.sum_nil]
theorem countP_take_succ {α:Type} {p:α→Bool} {L:List α} {n:Nat} (h:n<L.length):(L.take (n+1)).countP p=(L.take n).countP p+ (if p L[n]=true then 1 else 0):=by
 rw[List.take_add_one,List.getElem?_eq_getElem h,List.countP_append]
 simp[List.countP_cons,List.countP_nil]
set_option maxHeartbeats 2000000 in
theorem law38_NetsSpots_true {a:List (List Int)} {c b:Int} (hb:bytes3 a) (hn:a.length≤nn) (hbig:a.length≤140737488355328) (hc:0≤c∧c≤18446744073709551615) (hbb:0≤b∧b≤18446744073709551615)
  (hl:law38_lives (fu nn) ()=some true):law38_NetsSpots (fu nn) (a,(c,b))=some true:=by
 apply Ret.eq
 unfold law38_NetsSpots
 obtain⟨n,en,hnet,htree,h20⟩:=Tree_ok (c:=c) (b:=b) hb hn hbig
 obtain⟨q,eq,hq,hsub,hql⟩:=Of_ok en hnet htree h20 hc hbb
 obtain⟨S,H⟩:=n
 simp only at hnet htree h20 eq hq hsub
 have hge:=hnet.ge
 have LV:Ret ((law38_lives (fu nn) ()).bind fun r=>some r) fun x=>x=true:=by rw[hl];exact Ret_some rfl
 obtain⟨r4,e4,K,O,hp,hall,p1,p2⟩:=Place_ok (nn:=nn) hq (by omega)
 simp only
 rw[eq,Option.bind_some,e4,Option.bind_some]
 by_cases ho:∀g∈q,ovF (O.getD (idxS S g.1).toNat frZ) g=O.getD (idxS S (othS g)).toNat frZ
 rotate_left
 ·have e:=p2 ho
  subst e
  have eS:nets_Spots (fu nn) (S,q)=some ([],11):=by
   unfold nets_Spots
   rw[show nets_Place (fu nn) ((S,q).1,(S,q).2)=some ([],11) from e4,Option.bind_some]
   rfl
  rw[eS,Option.bind_some]
  exact Ret_dec (fun _=>Ret_dec (fun _=>Ret_dec (fun _=>LV) fun c=>absurd rfl c) fun c=>absurd rfl c) fun c=>absurd (by decide) c
 have e:=p1 ho
 subst e
 have oL:=hp.ol
 have kc:=count_of_all (K:=K) (fun i hi=>hall i (by have:=hp.kl;omega))
 have kl:=hp.kl
 have ok:∀i:Nat,i<O.length→FrOK 64 (O.getD i frZ):=fun i hi=>(hp.ok i (by omega) (hall i (by omega))).mono (by omega)
 have sm:∀i:Nat,i<O.length→SmF (O.getD i frZ):=fun i hi=>(ok i hi).sm (by omega)
 have e9:∀i:Nat,i<O.length→∀ {β:Type} (k:FrT→β),k ([(O.getD i frZ).1.getD 0 0,(O.getD i frZ).1.getD 1 0,(O.getD i frZ).1.getD 2 0],([(O.getD i frZ).2.1.getD 0 0,(O.getD i frZ).2.1.getD 1 0,(O.getD i frZ).2.1.getD 2 0],[(O.getD i frZ).2.2.getD 0 0,(O.getD i frZ).2.2.getD 1 0,(O.getD i frZ).2.2.getD 2 0]))=k (O.getD i frZ):=fun i hi β k=>by rw[eta9 (ok i hi)]
 rw[Spots_ok e4 sm (by omega),Option.bind_some]
 refine Ret_dec (fun g=>absurd rfl g) fun _=>?_
 refine Ret_loop (Inv:=fun x:Bool×Int=>0≤x.2∧x.2≤O.length∧(x.1=true→¬(O.map spF).Nodup)∧(x.1=false→∀i k:Nat,(i:Int)<x.2→k<i→spF (O.getD i frZ)≠spF (O.getD k frZ))) (m:=fun x=>((O.length:Int)-x.2).toNat) ?_ _ _ ⟨by simp,by simp,fun h=>(by cases h),fun _ i k hi=>(by simp only at hi;omega)⟩ (by simp only[fu];omega)
 rintro ⟨A,i⟩ rec ⟨i1,i2,i3,i4⟩ ih
 simp only at i1 i2 i3 i4 ⊢
 refine Ret_dec (fun hlt=>?_) fun hge2=>?_
 ·refine Ret_loop (Inv:=fun x:Bool×Int=>0≤x.2∧x.2≤i∧(x.1=true→¬(O.map spF).Nodup)∧(x.1=false→A=false∧∀k:Nat,(k:Int)<x.2→spF (O.getD i.toNat frZ)≠spF (O.getD k frZ))) (m:=fun x=>(i-x.2).toNat) ?_ _ _ ⟨by simp,by simp;omega,i3,fun h=>⟨h,fun k hk=>(by simp only at hk;omega)⟩⟩ (by simp only[fu];omega)
  rintro ⟨A2,k⟩ rec2 ⟨k1,k2,k3,k4⟩ ih2
  simp only at k1 k2 k3 k4 ⊢
  refine Ret_dec (fun hlt2=>?_) fun hge2=>?_
  ·refine Ret_bif (fun hA=>Ret_chk (i64b_t (by omega) (by omega)) (ih2 _ ⟨by simp only;omega,by simp only;omega,fun _=>k3 hA,fun h=>(by cases h)⟩ (by simp only;omega))) fun hA=>?_
   refine Ret_chk (inb_t (by omega) (by omega)) ?_
   rw[e9 i.toNat (by omega) (law38_spot (fu nn)),lspot_ok (sm _ (by omega)),Option.bind_some]
   refine Ret_chk (inb_t (by omega) (by omega)) ?_
   rw[e9 k.toNat (by omega) (law38_spot (fu nn)),lspot_ok (sm _ (by omega)),Option.bind_some]
   rw[eqSp (spF_len _) (spF_len _)]
   refine Ret_chk (i64b_t (by omega) (by omega)) (ih2 _ ⟨by simp only;omega,by simp only;omega,fun h=>?_,fun h=>⟨(k4 hA).1,fun m hm=>?_⟩⟩ (by simp only;omega))
   ·simp only[decide_eq_true_eq] at h
    intro hnd
    rw[List.nodup_iff_pairwise_ne,List.pairwise_iff_getElem] at hnd
    have:=hnd k.toNat i.toNat (by rw[List.length_map];omega) (by rw[List.length_map];omega) (by omega)
    rw[List.getElem_map,List.getElem_map] at this
    rw[List.getD,List.getElem?_eq_getElem (by omega),List.getD,List.getElem?_eq_getElem (by omega)] at h
    exact this h.symm
   ·simp only[decide_eq_false_iff_not] at h hm
    by_cases e:(m:Int)=k
    ·rw[show m=k.toNat by omega];exact h
    ·exact(k4 hA).2 m (by omega)
  ·refine Ret_chk (i64b_t (by omega) (by omega)) (ih _ ⟨by simp only;omega,by simp only;omega,k3,fun h j m hj hm=>?_⟩ (by simp only;omega))
   simp only at hj h
   by_cases e:(j:Int)=i
   ·rw[show j=i.toNat by omega] at hm ⊢
    exact(k4 h).2 m (by omega)
   ·exact i4 (k4 h).1 j m (by omega) hm
 ·refine Ret_dec (fun g=>absurd (by rw[oL]) g) fun _=>Ret_dec (fun g=>by omega) fun _=>Ret_bif (fun hA=>?_) fun hA=>?_
  ·unfold spotsR
   rw[if_neg (i3 hA)]
   exact Ret_dec (fun _=>Ret_dec (fun _=>LV) fun c=>absurd rfl c) fun c=>absurd rfl c
  have hnd:(O.map spF).Nodup:=by
   rw[List.nodup_iff_pairwise_ne,List.pairwise_iff_getElem]
   intro k j h1 h2 hkj
   rw[List.length_map] at h1 h2
   rw[List.getElem_map,List.getElem_map]
   have:=i4 hA j k (by omega) hkj
   rw[List.getD,List.getElem?_eq_getElem h2,List.getD,List.getElem?_eq_getElem h1] at this
   exact fun e=>this e.symm
  unfold spotsR
  rw[if_pos hnd]
  refine Ret_dec (fun g=>absurd rfl g) fun _=>Ret_dec (fun g=>absurd (by simp) g) fun _=>Ret_dec (fun g=>absurd rfl g) fun _=>?_
  refine Ret_loop (Inv:=fun i:Int=>0≤i∧i≤O.length) (m:=fun i=>((O.length:Int)-i).toNat) ?_ _ _ ⟨by simp,by simp⟩ (by simp only[fu];omega)
  rintro j rec2 ⟨j1,j2⟩ ih2
  refine Ret_dec (fun hlt2=>?_) fun hge2=>?_
  ·refine Ret_chk (inb_t (by omega) (by rw[List.length_map];omega)) (Ret_chk (inb_t (by omega) (by omega)) ?_)
   rw[e9 j.toNat (by omega) (law38_spot (fu nn)),lspot_ok (sm _ (by omega)),Option.bind_some]
   have es:(O.map spF).getD j.toNat (List.replicate 3 0,0)=spF (O.getD j.toNat frZ):=by
    rw[List.getD,List.getElem?_map,List.getD,List.getElem?_eq_getElem (by omega)];rfl
   rw[es]
   refine Ret_bif (fun c=>by simp at c) fun _=>?_
   exact Ret_chk (i64b_t (by omega) (by omega)) (ih2 _ ⟨by omega,by omega⟩ (by omega))
  refine Ret_loop (Inv:=fun i:Int=>0≤i∧i≤q.length) (m:=fun i=>((q.length:Int)-i).toNat) ?_ _ _ ⟨by simp,by simp⟩ (by simp only[fu];omega)
  rintro j rec3 ⟨j1,j2⟩ ih3
  refine Ret_dec (fun hlt3=>?_) fun _=>LV
  have hg:=getD_memH (H:=q) (i:=j.toNat) (by omega)
  refine Ret_chk (inb_t (by omega) (by omega)) ?_
  change Ret ((law38_beside (fu nn) ((q.getD j.toNat hZ).1,0)).bind _) _
  generalize hgg:q.getD j.toNat hZ=g at *
  obtain⟨g1,g2⟩:=hq.ends g hg
  have gb:=hq.bend g hg
  have sb:=hq.bd _ g1
  have smS:smallS 64 g.1:=sb
  have hog:=ho g hg
  rw[beside_ok smS (by omega),Option.bind_some]
  refine Ret_jn (fun x:Int×Int=>x=othS g) (fun x hx=>?_) fun j hj=>?_
  rotate_left
  ·refine Ret_bif (fun hu=>?_) fun hu=>?_
   ·rw[beside_ok smS (by omega),Option.bind_some]
    refine hj _ ?_
    rw[←besU_eq,if_pos hu]
   ·refine hj _ ?_
    rw[←besU_eq,if_neg (by rw[hu];decide)]
  subst hx
  obtain⟨x1,x2,x3⟩:=at_idxS g1
  obtain⟨z1,z2,z3⟩:=at_idxS g2
  rw[index_law (by omega) g1,Option.bind_some]
  refine Ret_chk (inb_t (by omega) (by omega)) ?_
  rw[e9 (idxS S g.1).toNat (by omega) (law38_corners (fu nn)),corners_ok (sm _ (by omega)),Option.bind_some,index_law (by omega) g2,Option.bind_some]
  refine Ret_chk (inb_t (by omega) (by omega)) ?_
  rw[e9 (idxS S (othS g)).toNat (by omega) (law38_corners (fu nn)),corners_ok (sm _ (by omega)),Option.bind_some,←hog]
  have fa:=ok (idxS S g.1).toNat (by omega)
  have two:=cnt_cor (h:=g) fa gb
  have lA:∀x∈cor (O.getD (idxS S g.1).toNat frZ),x.length=3:=cor_len _ fa.len
  have lB:∀x∈cor (ovF (O.getD (idxS S g.1).toNat frZ) g),x.length=3:=cor_len _ ovF_len
  have nA:(cor (O.getD (idxS S g.1).toNat frZ)).length=4:=rfl
  have nB:(cor (ovF (O.getD (idxS S g.1).toNat frZ) g)).length=4:=rfl
  generalize cor (ovF (O.getD (idxS S g.1).toNat frZ) g)=BB at *
  generalize cor (O.getD (idxS S g.1).toNat frZ)=AA at *
  refine Ret_loop (Inv:=fun x:Int×Int=>0≤x.2∧x.2≤4∧x.1=(((AA.map fun x=>BB.countP fun y=>decide (x=y)).take x.2.toNat).sum:Nat)∧x.1≤x.2*4) (m:=fun x=>(4-x.2).toNat) ?_ _ _ ⟨by simp,by simp,by simp,by simp⟩ (by simp only[fu];omega)
  rintro ⟨s,p⟩ rec4 ⟨s1,s2,s3,s4⟩ ih4
  simp only at s1 s2 s3 s4 ⊢
  refine Ret_dec (fun hlt4=>?_) fun hge4=>?_
  ·have eA:AA.getD p.toNat (List.replicate 3 0)=AA[p.toNat]'(by omega):=by rw[List.getD,List.getElem?_eq_getElem (by omega)];rfl
   refine Ret_loop (Inv:=fun x:Int×Int=>0≤x.2∧x.2≤4∧x.1=s+ (((BB.take x.2.toNat).countP fun y=>decide (AA[p.toNat]'(by omega)=y):Nat):Int)∧x.1≤s+x.2) (m:=fun x=>(4-x.2).toNat) ?_ _ _ ⟨by simp,by simp,by simp,by simp⟩ (by simp only[fu];omega)
   rintro ⟨s',p'⟩ rec5 ⟨t1,t2,t3,t4⟩ ih5
   simp only at t1 t2 t3 t4 ⊢
   refine Ret_dec (fun hlt5=>?_) fun hge5=>?_
   ·have eB:BB.getD p'.toNat (List.replicate 3 0)=BB[p'.toNat]'(by omega):=by rw[List.getD,List.getElem?_eq_getElem (by omega)];rfl
    have cs:=countP_take_succ (p:=fun y=>decide (AA[p.toNat]'(by omega)=y)) (L:=BB) (n:=p'.toNat) (by omega)
    rw[eA,eB,eq3 (lA _ (List.getElem_mem _)) (lB _ (List.getElem_mem _))]
    refine Ret_chk (inb_t (by omega) (by omega)) (Ret_chk (inb_t (by omega) (by omega)) (Ret_dec (fun g=>?_) fun g=>?_))
    ·refine Ret_chk (i64b_t (by omega) (by omega)) (Ret_chk (i64b_t (by omega) (by omega)) (ih5 _ ⟨by simp only;omega,by simp only;omega,?_,by simp only;omega⟩ (by simp only;omega)))
     simp only
     rw[show(p'+1).toNat=p'.toNat+1 by omega,cs,if_pos (by simpa using g)]
     omega
    ·refine Ret_chk (i64b_t (by omega) (by omega)) (ih5 _ ⟨by simp only;omega,by simp only;omega,?_,by simp only;omega⟩ (by simp only;omega))
     simp only
     rw[show(p'+1).toNat=p'.toNat+1 by omega,cs,if_neg (by simpa using g)]
     omega
   ·refine Ret_chk (i64b_t (by omega) (by omega)) (ih4 _ ⟨by simp only;omega,by simp only;omega,?_,by simp only;omega⟩ (by simp only;omega))
    simp only
    rw[show(p+1).toNat=p.toNat+1 by omega,sum_take_succ (by rw[List.length_map];omega),List.getElem_map,t3,List.take_of_length_le (by omega),s3]
    omega
  ·have e4:p=4:=by omega
   subst e4
   have:s=2:=by
    rw[s3,List.take_of_length_le (by rw[List.length_map];simp;omega)]
    unfold cntC at two
    rw[two];rfl
   subst this
   refine Ret_dec (fun g=>absurd rfl g) fun _=>?_
   exact Ret_chk (i64b_t (by omega) (by omega)) (ih3 _ ⟨by omega,by omega⟩ (by omega))
end X
end Go.Vm
