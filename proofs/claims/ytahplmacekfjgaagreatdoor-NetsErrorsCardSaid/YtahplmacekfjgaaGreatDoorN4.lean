/-
  Nets: spots (what NetsErrors needs).
  Nets: turned nets (what NetsErrors needs).
  Nets: Check tells why a net is not valid; the law's definition says the same.
  Nets: the law's definition of a valid net says what Check says.
  Nets: frames of any kind: Front, Next.
  Nets: the law NetsErrors.
-/
import Derived.Test.YtahplmacekfjgaaGreatDoorN1
set_option linter.unusedSimpArgs false
set_option linter.unusedVariables false
set_option linter.unusedSectionVars false
set_option linter.unnecessarySimpa false
namespace Go.Vm
namespace X
open W
variable {nn:Nat}
def mnA (f:FrT) (k:Nat):Int:=min (f.2.1.getD k 0) 0+min (f.2.2.getD k 0) 0
def j30 (f:FrT) (k:Nat):Prop:=f.2.1.getD k 0=0∧f.2.2.getD k 0=0
instance (f:FrT) (k:Nat):Decidable (j30 f k):=by unfold j30;infer_instance
def axF (f:FrT):Nat→Int
 | 0=>0
 | k+1=>if j30 f k then(k:Int) else axF f k
def spF (f:FrT):List Int×Int:=([f.1.getD 0 0+mnA f 0,f.1.getD 1 0+mnA f 1,f.1.getD 2 0+mnA f 2],axF f 3)
theorem kaz {z:Int} (h:0≤z∧z<3):IntKind.u8.wrap z=z:=by
 rcases(by omega:z=0∨z=1∨z=2) with rfl | rfl | rfl<;>decide
theorem j6n {V:List Int} {j k:Nat} {v:Int} (hV:V.length=3) (hj:j<3):(V.set j v).getD k 0=if k=j then v else V.getD k 0:=jb0 (by omega)
theorem j9u {f:FrT} {i:Int} (h:0≤i):axF f (i+1).toNat=if j30 f i.toNat then i else axF f i.toNat:=by
 rw[show(i+1).toNat=i.toNat+1 by omega,axF]
 split
 ·omega
 ·rfl
structure SpI (f:FrT) (i:Int) (V:List Int) (ax:Int):Prop where
 len:V.length=3
 i0:0≤i
 i3:i≤3
 at_:∀k:Nat,k<3→V.getD k 0=f.1.getD k 0+ (if(k:Int)<i then mnA f k else 0)
 ax:ax=axF f i.toNat
theorem SpI.start {f:FrT} (h:f.1.length=3):SpI f 0 f.1 0:=⟨h,by omega,by omega,fun k hk=>by rw[if_neg (by omega)];omega,rfl⟩
theorem SpI.next {f:FrT} {i:Int} {V:List Int} {ax ax' v:Int} (h:SpI f i V ax) (hi:i<3) (hv:v=f.1.getD i.toNat 0+mnA f i.toNat) (ha:ax'=if j30 f i.toNat then i else ax):SpI f (i+1) (V.set i.toNat v) ax':=by
 have h0:=h.i0
 refine⟨by rw[List.length_set];exact h.len,by omega,by omega,fun k hk=>?_,by rw[j9u h0,ha,h.ax]⟩
 rw[j6n h.len (by omega)]
 by_cases e:k=i.toNat
 ·rw[if_pos e,if_pos (by omega),hv,e]
 ·rw[if_neg e,h.at_ k hk]
  by_cases c:(k:Int)<i
  ·rw[if_pos c,if_pos (by omega)]
  ·rw[if_neg c,if_neg (by omega)]
theorem SpI.fin {f:FrT} {i:Int} {V:List Int} {ax:Int} (h:SpI f i V ax) (hi:¬i<3):(V,ax)=spF f:=by
 have e:i=3:=by have:=h.i3;omega
 subst e
 refine Prod.ext ?_ h.ax
 have a0:=h.at_ 0 (by omega);have a1:=h.at_ 1 (by omega);have a2:=h.at_ 2 (by omega)
 rw[if_pos (by omega)] at a0 a1 a2
 exact kan h.len rfl a0 a1 a2
structure SmF (f:FrT):Prop where
 len:f.1.length=3
 l1:f.2.1.length=3
 l2:f.2.2.length=3
 a:∀k:Nat,k<3→ -1000≤f.1.getD k 0∧f.1.getD k 0≤1000
 r:∀k:Nat,k<3→ -1≤f.2.1.getD k 0∧f.2.1.getD k 0≤1
 u:∀k:Nat,k<3→ -1≤f.2.2.getD k 0∧f.2.2.getD k 0≤1
theorem FrOK.sm {B:Int} {f:FrT} (h:FrOK B f) (hB:B≤1000):SmF f:=by
 obtain⟨l1,l2⟩:=jiv _ h.ru
 obtain⟨u1,u2⟩:=jl4 _ h.ru
 exact⟨h.len,l1,l2,fun k hk=>by have:=h.lo k hk;have:=h.hi k hk;omega,(jgs _ u1).2,(jgs _ u2).2⟩
theorem j89 {f:FrT} (h:SmF f):jcj (fu nn) f=some (spF f):=by
 apply Ret.eq
 unfold jcj
 rw[jko h.l1,jko h.l2]
 refine ja0 (Inv:=fun s:Int×(Int×(Int×(Int×Int)))=>∃V ax,s=(s.1,(V.getD 0 0,(V.getD 1 0,(V.getD 2 0,ax))))∧SpI f s.1 V ax) (m:=fun s=>(3-s.1).toNat) ?_ _ _ ⟨f.1,0,rfl,SpI.start h.len⟩ (by simp only[fu];omega)
 rintro ⟨i,s⟩ rec ⟨V,ax,e,hI⟩ ih
 simp only[Prod.mk.injEq,true_and] at e
 subst e
 have i0:=hI.i0
 simp only at hI ⊢
 rw[jko hI.len]
 refine jac (fun hlt=>?_) fun hge=>jak (hI.fin hge)
 have ha:=h.a i.toNat (by omega)
 have hr:=h.r i.toNat (by omega)
 have hu:=h.u i.toNat (by omega)
 have hv:=hI.at_ i.toNat (by omega)
 rw[if_neg (by omega),Int.add_zero] at hv
 have hin:=jb2 (i:=i) (n:=3) (by omega) (by omega)
 have nxt:∀ax',ax'=(if j30 f i.toNat then i else ax)→Ret (chk (jap (i+1)) (rec (i+1,(V.set i.toNat (V.getD i.toNat 0+ (min (f.2.1.getD i.toNat 0) 0+min (f.2.2.getD i.toNat 0) 0))).getD 0 0,(V.set i.toNat (V.getD i.toNat 0+ (min (f.2.1.getD i.toNat 0) 0+min (f.2.2.getD i.toNat 0) 0))).getD 1 0,(V.set i.toNat (V.getD i.toNat 0+ (min (f.2.1.getD i.toNat 0) 0+min (f.2.2.getD i.toNat 0) 0))).getD 2 0,ax'))) fun x=>x=spF f:=fun ax' e=>by
  refine jab (jaq (by omega) (by omega)) (ih _ ⟨_,ax',rfl,hI.next hlt ?_ e⟩ (by simp only;omega))
  rw[hv];rfl
 refine jab hin (jab hin (jab hin (jab (jaq (by omega) (by omega)) (jab (jaq (by omega) (by omega)) (jab hin (jab hin (jac (fun c1=>jab hin (jac (fun c2=>?_) fun c2=>?_)) fun c1=>?_)))))))
 ·exact nxt _ (by rw[if_pos ⟨c1,c2⟩,kaz (by omega)])
 ·exact nxt _ (by rw[if_neg fun c=>c2 c.2])
 ·exact nxt _ (by rw[if_neg fun c=>c1 c.1])
abbrev SpT:Type:=List Int×Int
abbrev spZ:SpT:=(List.replicate 3 0,0)
theorem j47 (f:FrT):(spF f).1.length=3:=rfl
theorem kkd {s t:SpT} (hs:s.1.length=3) (ht:t.1.length=3):(decide (s.1.getD 0 0=t.1.getD 0 0)&&(decide (s.1.getD 1 0=t.1.getD 1 0)&&(decide (s.1.getD 2 0=t.1.getD 2 0)&&decide (s.2=t.2))))=decide (s=t):=by
 rw[Bool.eq_iff_iff]
 simp only[Bool.and_eq_true,decide_eq_true_eq]
 constructor
 ·rintro ⟨h0,h1,h2,h3⟩
  exact Prod.ext (kan hs ht h0 h1 h2) h3
 ·rintro rfl
  exact⟨rfl,rfl,rfl,rfl⟩
theorem j3z {L:List SpT} {i:Nat} (h:i<L.length):L.getD i spZ∈L:=by rw[List.getD,List.getElem?_eq_getElem h];exact List.getElem_mem _
theorem jwq {L:List SpT} (hl:L.length≤10000) (hL:∀s∈L,s.1.length=3) {s:SpT} (hs:s.1.length=3):ja9 (fu nn) (L,s)=some (decide (s∈L)):=by
 have key:Ret (jbh (fu nn) (L,s)) fun r=>decide ((0:Int)≤r)=decide (s∈L):=by
  unfold jbh
  simp only
  refine ja0 (Inv:=fun i:Int=>0≤i∧i≤L.length∧∀k:Nat,(k:Int)<i→L.getD k spZ≠s) (m:=fun i=>((L.length:Int)-i).toNat) ?_ _ _ ⟨by simp,by simp,fun k hk=>by omega⟩ (by simp only[fu];omega)
  rintro i rec ⟨i1,i2,i3⟩ ih
  refine jac (fun hlt=>?_) fun hge=>?_
  ·have hm:=j3z (L:=L) (i:=i.toNat) (by omega)
   rw[show(decide (s.1.getD 0 0=(L.getD i.toNat (List.replicate 3 0,0)).1.getD 0 0)&&(decide (s.1.getD 1 0=(L.getD i.toNat (List.replicate 3 0,0)).1.getD 1 0)&&(decide (s.1.getD 2 0=(L.getD i.toNat (List.replicate 3 0,0)).1.getD 2 0)&&decide (s.2=(L.getD i.toNat (List.replicate 3 0,0)).2))))=decide (s=L.getD i.toNat spZ) from kkd hs (hL _ hm)]
   refine jab (jb2 (by omega) (by omega)) (jac (fun g=>jak ?_) fun g=>jab (jaq (by omega) (by omega)) (ih _ ⟨by omega,by omega,fun k hk=>?_⟩ (by omega)))
   ·rw[decide_eq_true i1,decide_eq_true]
    rw[g];exact hm
   ·by_cases e:(k:Int)=i
    ·rw[show k=i.toNat by omega];exact fun c=>g c.symm
    ·exact i3 k (by omega)
  ·refine jak ?_
   rw[decide_eq_false (by omega),decide_eq_false]
   intro c
   obtain⟨k,hk,e⟩:=List.mem_iff_getElem.1 c
   have:=i3 k (by omega)
   rw[List.getD,List.getElem?_eq_getElem hk] at this
   exact this e
 unfold ja9
 simp only
 rw[jko hs]
 obtain⟨r,e,h⟩:=key
 rw[show jbh (fu nn) (L,s.1,s.2)=some r from e,Option.bind_some,h]
theorem j4a {c n:Nat} (h:n≤c):jit (some c) n=some c:=by
 unfold jit
 simp only
 rw[show n.ble c=true from Nat.ble_eq_true_of_le h]
 rfl
def j1k (O:List FrT):List SpT×Int:=if(O.map spF).Nodup then(O.map spF,0) else([],12)
theorem j9w {S:List SqT} {H:List HgT} {O:List FrT} (hp:jbu (fu nn) (S,H)=some (O,0)) (hO:∀i:Nat,i<O.length→SmF (O.getD i frZ)) (hl:O.length≤1000):jcg (fu nn) (S,H)=some (j1k O):=by
 apply Ret.eq
 unfold jcg
 rw[show jbu (fu nn) ((S,H).1,(S,H).2)=some (O,0) from hp,Option.bind_some]
 refine jac (fun g=>absurd rfl g) fun _=>jab (by simp only[Bool.and_eq_true,decide_eq_true_eq];omega) ?_
 refine ja0 (Inv:=fun s:((List SpT×Nat)×Int)=>0≤s.2∧s.2≤O.length∧s.1.1=(O.map spF).take s.2.toNat∧s.1.2=O.length∧((O.map spF).take s.2.toNat).Nodup) (m:=fun s=>((O.length:Int)-s.2).toNat) ?_ _ _ ⟨by simp,by simp,by simp,rfl,by simp⟩ (by simp only[fu];omega)
 rintro ⟨⟨L,c⟩,i⟩ rec ⟨i1,i2,i3,i4,i5⟩ ih
 simp only at i1 i2 i3 i4 i5 ⊢
 subst i3
 subst i4
 have jbv:((O.map spF).take i.toNat).length=i.toNat:=by rw[List.length_take,List.length_map];omega
 refine jac (fun hlt=>?_) fun hge=>?_
 ·have sm:=hO i.toNat (by omega)
  have eO:O.getD i.toNat frZ=O[i.toNat]'(by omega):=by rw[List.getD,List.getElem?_eq_getElem (by omega)];rfl
  have snoc:(O.map spF).take (i+1).toNat=(O.map spF).take i.toNat++[spF (O.getD i.toNat frZ)]:=by
   rw[show(i+1).toNat=i.toNat+1 by omega,List.take_add_one,List.getElem?_map,List.getElem?_eq_getElem (by omega),eO]
   rfl
  change Ret (chk _ ((jcj (fu nn) ([(O.getD i.toNat frZ).1.getD 0 0,(O.getD i.toNat frZ).1.getD 1 0,(O.getD i.toNat frZ).1.getD 2 0],([(O.getD i.toNat frZ).2.1.getD 0 0,(O.getD i.toNat frZ).2.1.getD 1 0,(O.getD i.toNat frZ).2.1.getD 2 0],[(O.getD i.toNat frZ).2.2.getD 0 0,(O.getD i.toNat frZ).2.2.getD 1 0,(O.getD i.toNat frZ).2.2.getD 2 0]))).bind _)) _
  generalize O.getD i.toNat frZ=f at *
  rw[jko sm.len,jko sm.l1,jko sm.l2,show jcj (fu nn) (f.1,f.2.1,f.2.2)=some (spF f) from j89 sm,Option.bind_some,jko (j47 f),show ja9 (fu nn) ((O.map spF).take i.toNat,(spF f).1,(spF f).2)=some (decide (spF f∈(O.map spF).take i.toNat)) from jwq (by omega) (fun s hs=>by
   obtain⟨g,_,rfl⟩:=List.mem_map.1 (List.mem_of_mem_take hs)
   rfl) (j47 f),Option.bind_some]
  refine jab (jb2 (by omega) (by omega)) (jac (fun g=>jak ?_) fun g=>?_)
  ·unfold j1k
   rw[if_neg]
   intro hn
   have hs:=hn.sublist (List.take_sublist (i+1).toNat _)
   rw[snoc,List.nodup_append] at hs
   exact hs.2.2 _ g _ (by simp) rfl
  ·have e1:((O.map spF).take i.toNat).length+1≤O.length:=by omega
   rw[j4a e1]
   refine jab (js7 (by omega)) (jab (jaq (by omega) (by omega)) (jab rfl (ih _ ⟨by simp only;omega,by simp only;omega,?_,rfl,?_⟩ (by simp only;omega))))
   ·exact snoc.symm
   ·simp only
    rw[snoc,List.nodup_append]
    exact⟨i5,by simp,fun x hx y hy e=>by rw[List.mem_singleton.1 hy] at e;rw[e] at hx;exact g hx⟩
 ·have e:(O.map spF).take i.toNat=O.map spF:=List.take_of_length_le (by rw[List.length_map];omega)
  rw[e] at i5 ⊢
  refine jab (by simp[jkb]) (jak ?_)
  unfold j1k
  rw[if_pos i5]
end X
end Go.Vm
namespace Go.Vm
namespace X
open W
variable {nn:Nat}
def tS (t:Int) (s:SqT):SqT:=
 if t=1 then(-s.2-1,s.1) else if t=2 then(-s.1-1, -s.2-1) else if t=3 then(s.2, -s.1-1) else if t=4 then(-s.1-1,s.2) else if t=5 then(-s.2-1, -s.1-1) else if t=6 then(s.1, -s.2-1) else if t=7 then(s.2,s.1) else s
theorem j34 {α:Type} {z:Int} {o:Option α} (h1: -9223372036854775808≤z) (h2:z≤9223372036854775807):chk (jap z) o=o:=jgv (jaq h1 h2)
theorem jof {B:Int} {s:SqT} {t:Int} (h:jfm B s) (hB:B≤1000) (ht:0≤t∧t≤7):jav (fu nn) (s,t)=some (tS t s):=by
 obtain⟨x,y⟩:=s
 obtain⟨⟨x1,x2⟩,y1,y2⟩:=h
 simp only at x1 x2 y1 y2
 have c1:∀ {α:Type} (o:Option α),chk (jap (x+1)) o=o:=fun o=>j34 (by omega) (by omega)
 have c2:∀ {α:Type} (o:Option α),chk (jap (y+1)) o=o:=fun o=>j34 (by omega) (by omega)
 have c3:∀ {α:Type} (o:Option α),chk (jap (-x)) o=o:=fun o=>j34 (by omega) (by omega)
 have c4:∀ {α:Type} (o:Option α),chk (jap (-y)) o=o:=fun o=>j34 (by omega) (by omega)
 have c5:∀ {α:Type} (o:Option α),chk (jap (-(x+1))) o=o:=fun o=>j34 (by omega) (by omega)
 have c6:∀ {α:Type} (o:Option α),chk (jap (-(y+1))) o=o:=fun o=>j34 (by omega) (by omega)
 rcases(by omega:t=0∨t=1∨t=2∨t=3∨t=4∨t=5∨t=6∨t=7) with rfl | rfl | rfl | rfl | rfl | rfl | rfl | rfl<;>
  simp[jav,ja1,jas,ja3,jax,ja2,ja4,jaz,jay,tS,c1,c2,c3,c4,c5,c6]<;>omega
structure IsLow (m:SqT) (L:List SqT):Prop where
 le:∀s∈L,m.1≤s.1∧m.2≤s.2
 a1:∃s∈L,s.1=m.1
 a2:∃s∈L,s.2=m.2
def mn2 (z:SqT) (L:List SqT):SqT:=L.foldl (fun a s=>(min a.1 s.1,min a.2 s.2)) z
theorem j1w (z:SqT) (L:List SqT) (s:SqT):mn2 z (L++[s])=(min (mn2 z L).1 s.1,min (mn2 z L).2 s.2):=by unfold mn2;rw[List.foldl_append];rfl
theorem j1v (z:SqT):∀L:List SqT,(∀s∈L,(mn2 z L).1≤s.1∧(mn2 z L).2≤s.2)∧(mn2 z L).1≤z.1∧(mn2 z L).2≤z.2∧((mn2 z L).1=z.1∨∃s∈L,s.1=(mn2 z L).1)∧((mn2 z L).2=z.2∨∃s∈L,s.2=(mn2 z L).2):=by
 intro L
 generalize hn:L.reverse=R
 obtain rfl:L=R.reverse:=by rw[←hn,List.reverse_reverse]
 clear hn
 induction R with
 | nil=>exact⟨fun s hs=>by simp at hs,Int.le_refl _,Int.le_refl _,.inl rfl,.inl rfl⟩
 | cons s R ih=>
   rw[List.reverse_cons,j1w]
   obtain⟨h1,h2,h3,h4,h5⟩:=ih
   refine⟨fun t ht=>?_,by simp only;omega,by simp only;omega,?_,?_⟩
   ·rcases List.mem_append.1 ht with ht | ht
    ·have:=h1 t ht;simp only;omega
    ·rw[List.mem_singleton.1 ht];simp only;omega
   ·simp only
    by_cases c:s.1≤(mn2 z R.reverse).1
    ·exact .inr ⟨s,by simp,by omega⟩
    ·rcases h4 with h4 | ⟨t,ht,e⟩
     ·exact .inl (by omega)
     ·exact .inr ⟨t,List.mem_append_left _ ht,by omega⟩
   ·simp only
    by_cases c:s.2≤(mn2 z R.reverse).2
    ·exact .inr ⟨s,by simp,by omega⟩
    ·rcases h5 with h5 | ⟨t,ht,e⟩
     ·exact .inl (by omega)
     ·exact .inr ⟨t,List.mem_append_left _ ht,by omega⟩
theorem kb6 {z:SqT} {L:List SqT} (hne:L≠[]) (h:z∈L∨∀s∈L,s.1<z.1∧s.2<z.2):IsLow (mn2 z L) L:=by
 obtain⟨h1,h2,h3,h4,h5⟩:=j1v z L
 obtain⟨s0,hs0⟩:=List.exists_mem_of_ne_nil L hne
 refine⟨h1,?_,?_⟩
 ·rcases h4 with e | e
  ·rcases h with h | h
   ·exact⟨z,h,e.symm⟩
   ·have:=h1 s0 hs0;have:=h s0 hs0;omega
  ·exact e
 ·rcases h5 with e | e
  ·rcases h with h | h
   ·exact⟨z,h,e.symm⟩
   ·have:=h1 s0 hs0;have:=h s0 hs0;omega
  ·exact e
def loS (t:Int) (S:List SqT):SqT:=mn2 (128,128) (S.map (tS t))
def mvS (t:Int) (lo:SqT) (s:SqT):SqT:=((tS t s).1-lo.1,(tS t s).2-lo.2)
def btw (a b:SqT) (d:Int):HgT:=if ltS b a then(b,(decide (b.1=a.1),d)) else(a,(decide (a.1=b.1),d))
theorem j38 (a b:SqT) (d:Int):jfd (fu nn) (a,(b,d))=some (btw a b d):=by
 unfold jfd
 rw[show jan (fu nn) (((a,(b,d)).1.1,(a,(b,d)).1.2),((a,(b,d)).2.1.1,(a,(b,d)).2.1.2))=some (jzi a b) from jhf _ _,Option.bind_some]
 have:(0:Int)<jzi a b↔ltS b a:=by
  unfold jzi
  have irr:=jj8 a
  rcases j0c a b with h | h | h
  ·rw[if_pos h]
   constructor
   ·intro c;omega
   ·intro c;exact absurd (jfr h c) irr
  ·subst h
   rw[if_neg irr,if_pos rfl]
   exact⟨fun c=>by omega,fun c=>absurd c irr⟩
  ·rw[if_neg fun c=>irr (jfr c h),if_neg fun c=>by subst c;exact irr h]
   exact⟨fun _=>h,fun _=>by omega⟩
 unfold btw
 by_cases c:ltS b a
 ·rw[if_pos c,decide_eq_true (this.2 c)];rfl
 ·rw[if_neg c,decide_eq_false fun g=>c (this.1 g)];rfl
def mvH (t:Int) (lo:SqT) (h:HgT):HgT:=btw (mvS t lo h.1) (mvS t lo (ja8 h)) h.2.2
def sqT (t:Int) (S:List SqT):List SqT:=jla cfS (S.map (mvS t (loS t S)))
def hgT (t:Int) (S:List SqT) (H:List HgT):List HgT:=jla cfH (H.map (mvH t (loS t S)))
theorem j8d {B:Int} {s:SqT} (t:Int) (h:jfm B s):jfm (B+1) (tS t s):=by
 obtain⟨⟨x1,x2⟩,y1,y2⟩:=h
 unfold tS jfm
 repeat' split
 all_goals first | (simp only;omega) | omega
theorem jm4 {α β:Type} {L:List α} {n:Nat} (h:n<L.length) (f:α→β):(L.take (n+1)).map f=(L.take n).map f++[f L[n]]:=by
 rw[List.take_add_one,List.getElem?_eq_getElem h,List.map_append];rfl
theorem jii {α:Type} {L:List α} {n m:Nat} {z:α} (h:n<L.length) (hm:m=L.length):((L.take n)++List.replicate (m-n) z).set n L[n]=L.take (n+1)++List.replicate (m-(n+1)) z:=by
 subst hm
 refine List.ext_getElem? fun i=>?_
 rw[List.getElem?_set]
 have hl:((L.take n)++List.replicate (L.length-n) z).length=L.length:=by rw[List.length_append,List.length_take,List.length_replicate];omega
 by_cases e:n=i
 ·subst e
  rw[if_pos rfl,if_pos (by omega),List.getElem?_append_left (by rw[List.length_take];omega),List.getElem?_take,if_pos (by omega),List.getElem?_eq_getElem h]
 ·rw[if_neg e]
  by_cases c:i<n
  ·rw[List.getElem?_append_left (by rw[List.length_take];omega),List.getElem?_append_left (by rw[List.length_take];omega),List.getElem?_take,List.getElem?_take,if_pos c,if_pos (by omega)]
  ·rw[List.getElem?_append_right (by rw[List.length_take];omega),List.getElem?_append_right (by rw[List.length_take];omega),List.getElem?_replicate,List.getElem?_replicate,List.length_take,List.length_take]
   by_cases c2:i<L.length
   ·rw[if_pos (by omega),if_pos (by omega)]
   ·rw[if_neg (by omega),if_neg (by omega)]
structure SmN (B:Int) (S:List SqT) (H:List HgT):Prop where
 s:∀x∈S,jfm B x
 h:∀g∈H,jfm B g.1∧jfm B (ja8 g)∧(-1≤g.2.2∧g.2.2≤1)
 sl:S.length≤64
 hl:H.length≤1000
 ne:S≠[]
theorem jz2 {B:Int} {h:HgT} (hs:jfm B h.1) (hB:B≤1000):jao (fu nn) h=some (ja8 h):=by
 obtain⟨⟨x1,x2⟩,y1,y2⟩:=hs
 exact jvx ⟨by omega,by omega,by omega,by omega⟩
set_option maxHeartbeats 1000000 in
theorem jpt {S:List SqT} {H:List HgT} {t:Int} (h:SmN 100 S H) (ht:0≤t∧t≤7) (hd:okH (H.map (mvH t (loS t S)))=true):jbz (fu nn) ((S,H),t)=some (sqT t S,hgT t S H):=by
 have sl:=h.sl
 have hl:=h.hl
 have tsm:∀s:SqT,jfm 100 s→jfm 101 (tS t s):=fun s hs=>j8d t hs
 have lob:jfm 128 (loS t S):=by
  obtain⟨a1,a2,a3,a4,a5⟩:=j1v (128,128) (S.map (tS t))
  have low:IsLow (loS t S) (S.map (tS t)):=kb6 (by simpa using h.ne) (.inr fun s hs=>by
   obtain⟨x,hx,rfl⟩:=List.mem_map.1 hs
   have:=tsm x (h.s x hx)
   obtain⟨⟨_,_⟩,_,_⟩:=this
   simp only;omega)
  obtain⟨x,hx,e1⟩:=low.a1
  obtain⟨y,hy,e2⟩:=low.a2
  obtain⟨x',hx',rfl⟩:=List.mem_map.1 hx
  obtain⟨y',hy',rfl⟩:=List.mem_map.1 hy
  obtain⟨⟨_,_⟩,_,_⟩:=tsm x' (h.s x' hx')
  obtain⟨⟨_,_⟩,_,_⟩:=tsm y' (h.s y' hy')
  exact⟨⟨by omega,by omega⟩,by omega,by omega⟩
 apply Ret.eq
 unfold jbz
 simp only
 refine jab (by simp only[Bool.and_eq_true,decide_eq_true_eq];omega) (jab (by simp only[Bool.and_eq_true,decide_eq_true_eq];omega) ?_)
 refine ja0 (Inv:=fun x:Int×(Int×Int)=>0≤x.1∧x.1≤S.length∧x.2=mn2 (128,128) ((S.take x.1.toNat).map (tS t))) (m:=fun x=>((S.length:Int)-x.1).toNat) ?_ _ _ ⟨by simp,by simp,by simp[mn2]⟩ (by simp only[fu];omega)
 rintro ⟨i,lo⟩ rec ⟨i1,i2,i3⟩ ih
 simp only at i1 i2 i3 ⊢
 subst i3
 refine jac (fun hlt=>?_) fun hge=>?_
 ·have hx:=h.s _ (jdu (L:=S) (i:=i.toNat) (by omega))
  rw[show jav (fu nn) (((S.getD i.toNat (0,0)).1,(S.getD i.toNat (0,0)).2),t)=some (tS t (S.getD i.toNat (0,0))) from jof hx (by omega) ht,Option.bind_some]
  refine jab (jb2 (by omega) (by omega)) (jab (jaq (by omega) (by omega)) (ih _ ⟨by simp only;omega,by simp only;omega,?_⟩ (by simp only;omega)))
  simp only
  rw[show(i+1).toNat=i.toNat+1 by omega,jm4 (by omega),j1w,List.getD,List.getElem?_eq_getElem (by omega)]
  rfl
 rw[List.take_of_length_le (by omega),show mn2 (128,128) (S.map (tS t))=loS t S from rfl]
 have mvb:∀s:SqT,jfm 100 s→jap ((tS t s).1-(loS t S).1)=true∧jap ((tS t s).2-(loS t S).2)=true:=fun s hs=>by
  obtain⟨⟨_,_⟩,_,_⟩:=tsm s hs
  obtain⟨⟨_,_⟩,_,_⟩:=lob
  exact⟨jaq (by omega) (by omega),jaq (by omega) (by omega)⟩
 have mapl:(S.map (mvS t (loS t S))).length=S.length:=List.length_map _
 have maph:(H.map (mvH t (loS t S))).length=H.length:=List.length_map _
 refine ja0 (Inv:=fun x:Int×((List SqT)×Option Nat)=>0≤x.1∧x.1≤S.length∧x.2=((S.map (mvS t (loS t S))).take x.1.toNat++List.replicate (S.length-x.1.toNat) (0,0),some S.length)) (m:=fun x=>((S.length:Int)-x.1).toNat) ?_ _ _ ⟨by simp,by simp,by simp⟩ (by simp only[fu];omega)
 rintro ⟨i,L,c⟩ rec2 ⟨i1,i2,i3⟩ ih2
 simp only at i1 i2 i3 ⊢
 obtain⟨rfl,rfl⟩:=Prod.mk.inj i3
 have jbv:((S.map (mvS t (loS t S))).take i.toNat++List.replicate (S.length-i.toNat) ((0,0):SqT)).length=S.length:=by rw[List.length_append,List.length_take,List.length_replicate];omega
 refine jac (fun hlt=>?_) fun hge=>?_
 ·have hx:=h.s _ (jdu (L:=S) (i:=i.toNat) (by omega))
  obtain⟨b1,b2⟩:=mvb _ hx
  rw[show jav (fu nn) (((S.getD i.toNat (0,0)).1,(S.getD i.toNat (0,0)).2),t)=some (tS t (S.getD i.toNat (0,0))) from jof hx (by omega) ht,Option.bind_some]
  refine jab (jb2 (by omega) (by omega)) (jab b1 (jab b2 (jab (jb2 (by omega) (by omega)) (jab (jaq (by omega) (by omega)) (ih2 _ ⟨by simp only;omega,by simp only;omega,?_⟩ (by simp only;omega))))))
  simp only
  have:=jii (L:=S.map (mvS t (loS t S))) (n:=i.toNat) (m:=S.length) (z:=(0,0)) (by omega) mapl.symm
  rw[List.getElem_map] at this
  rw[show(i+1).toNat=i.toNat+1 by omega,←this,List.getD,List.getElem?_eq_getElem (by omega)]
  rfl
 have e0:S.length-i.toNat=0:=by omega
 rw[List.take_of_length_le (by omega),e0,List.replicate_zero,List.append_nil]
 clear jbv
 refine ja0 (Inv:=fun x:Int×((List HgT)×Option Nat)=>0≤x.1∧x.1≤H.length∧x.2=((H.map (mvH t (loS t S))).take x.1.toNat++List.replicate (H.length-x.1.toNat) hZ,some H.length)) (m:=fun x=>((H.length:Int)-x.1).toNat) ?_ _ _ ⟨by simp,by simp,by simp⟩ (by simp only[fu];omega)
 rintro ⟨j,L,c⟩ rec3 ⟨j1,j2,j3⟩ ih3
 simp only at j1 j2 j3 ⊢
 obtain⟨rfl,rfl⟩:=Prod.mk.inj j3
 have jbv:((H.map (mvH t (loS t S))).take j.toNat++List.replicate (H.length-j.toNat) hZ).length=H.length:=by rw[List.length_append,List.length_take,List.length_replicate];omega
 refine jac (fun hlt=>?_) fun hge=>?_
 ·obtain⟨g1,g2,g3⟩:=h.h _ (jdv (H:=H) (i:=j.toNat) (by omega))
  obtain⟨b1,b2⟩:=mvb _ g1
  obtain⟨b3,b4⟩:=mvb _ g2
  rw[show jav (fu nn) (((H.getD j.toNat ((0,0),(false,0))).1.1,(H.getD j.toNat ((0,0),(false,0))).1.2),t)=some (tS t (H.getD j.toNat hZ).1) from jof g1 (by omega) ht,Option.bind_some]
  refine jab (jb2 (by omega) (by omega)) (jab b1 (jab b2 ?_))
  rw[show jao (fu nn) (((H.getD j.toNat ((0,0),(false,0))).1.1,(H.getD j.toNat ((0,0),(false,0))).1.2),((H.getD j.toNat ((0,0),(false,0))).2.1,(H.getD j.toNat ((0,0),(false,0))).2.2))=some (ja8 (H.getD j.toNat hZ)) from jz2 g1 (by omega),Option.bind_some,show jav (fu nn) (((ja8 (H.getD j.toNat hZ)).1,(ja8 (H.getD j.toNat hZ)).2),t)=some (tS t (ja8 (H.getD j.toNat hZ))) from jof g2 (by omega) ht,Option.bind_some]
  refine jab b3 (jab b4 ?_)
  rw[show jfd (fu nn) (((tS t (H.getD j.toNat hZ).1).1-(loS t S).1,(tS t (H.getD j.toNat hZ).1).2-(loS t S).2),(((tS t (ja8 (H.getD j.toNat hZ))).1-(loS t S).1,(tS t (ja8 (H.getD j.toNat hZ))).2-(loS t S).2),(H.getD j.toNat ((0,0),(false,0))).2.2))=some (mvH t (loS t S) (H.getD j.toNat hZ)) from j38 _ _ _,Option.bind_some]
  refine jab (jb2 (by omega) (by omega)) (jab (jaq (by omega) (by omega)) (ih3 _ ⟨by simp only;omega,by simp only;omega,?_⟩ (by simp only;omega)))
  simp only
  have:=jii (L:=H.map (mvH t (loS t S))) (n:=j.toNat) (m:=H.length) (z:=hZ) (by omega) maph.symm
  rw[List.getElem_map] at this
  rw[show(j+1).toNat=j.toNat+1 by omega,←this,List.getD,List.getElem?_eq_getElem (by omega)]
  rfl
 have e0:H.length-j.toNat=0:=by omega
 rw[List.take_of_length_le (by omega),e0,List.replicate_zero,List.append_nil]
 have s1:jbb (fu nn) ((S.map (mvS t (loS t S)),some S.length),((),()))=some ((),((sqT t S,some S.length),((),()))):=by
  unfold jbb
  have c:((List.length (α:=(Int×Int)) (S.map (mvS t (loS t S)))).ble 1000000&&okS (S.map (mvS t (loS t S))))=true:=by
   rw[show okS (S.map (mvS t (loS t S)))=true from rfl,Bool.and_true,Nat.ble_eq]
   omega
  simp only
  rw[c];rfl
 have s2:jbd (fu nn) ((H.map (mvH t (loS t S)),some H.length),((),()))=some ((),((hgT t S H,some H.length),((),()))):=by
  unfold jbd
  have c:((List.length (α:=((Int×Int)×(Bool×Int))) (H.map (mvH t (loS t S)))).ble 1000000&&okH (H.map (mvH t (loS t S))))=true:=by
   rw[hd,Bool.and_true,Nat.ble_eq]
   omega
  simp only
  rw[c];rfl
 rw[s1,Option.bind_some,s2,Option.bind_some]
 have l1:(sqT t S).length=S.length:=by unfold sqT;rw[(jco _ _).length_eq,mapl]
 have l2:(hgT t S H).length=H.length:=by unfold hgT;rw[(jco _ _).length_eq,maph]
 refine jab ?_ (jak rfl)
 simp[jkb,l1,l2]
theorem j7p {S:List SqT} {H:List HgT} {t:Int} (hn:NetOK S H) (h:SmN 100 S H) (ht:0≤t∧t≤7) (hd:okH (H.map (mvH t (loS t S)))=true):jcz (fu nn) ((S,H),t)=some ((sqT t S,hgT t S H),0):=by
 have hl:=h.hl
 apply Ret.eq
 unfold jcz
 rw[show jba (fu nn) ((((S,H),t):(List SqT×List HgT)×Int).1.1,(((S,H),t):(List SqT×List HgT)×Int).1.2)=some 0 from jr3 hn (show H.length≤10000 by omega),Option.bind_some]
 refine jac (fun g=>absurd rfl g) fun _=>jac (fun g=>by simp only at g;omega) fun _=>?_
 rw[show jbz (fu nn) (((((S,H),t):(List SqT×List HgT)×Int).1.1,(((S,H),t):(List SqT×List HgT)×Int).1.2),(((S,H),t):(List SqT×List HgT)×Int).2)=some (sqT t S,hgT t S H) from jpt h ht hd,Option.bind_some]
 exact jab (by simp[jkb]) (jak rfl)
def kh6 (h:HgT):HgT:=(h.1,(h.2.1, -h.2.2))
theorem kdj {S:List SqT} {H:List HgT} (hn:NetOK S H) (h:SmN 100 S H) (hd:okH (H.map (mvH 4 (loS 4 S)))=true) (hb:∀g∈hgT 4 S H, -1≤g.2.2∧g.2.2≤1):jhu (fu nn) (S,H)=some ((sqT 4 S,(hgT 4 S H).map kh6),0):=by
 have hl:=h.hl
 have l2:(hgT 4 S H).length=H.length:=by unfold hgT;rw[(jco _ _).length_eq,List.length_map]
 apply Ret.eq
 unfold jhu
 rw[show jba (fu nn) ((S,H).1,(S,H).2)=some 0 from jr3 hn (show H.length≤10000 by omega),Option.bind_some]
 refine jac (fun g=>absurd rfl g) fun _=>?_
 rw[show jbz (fu nn) (((S,H).1,(S,H).2),4)=some (sqT 4 S,hgT 4 S H) from jpt h (by decide) hd,Option.bind_some]
 generalize hgT 4 S H=G at *
 refine ja0 (Inv:=fun x:Int×((List HgT)×Option Nat)=>0≤x.1∧x.1≤G.length∧x.2=((G.take x.1.toNat).map kh6++G.drop x.1.toNat,some G.length)) (m:=fun x=>((G.length:Int)-x.1).toNat) ?_ _ _ ⟨by simp,by simp,by simp⟩ (by simp only[fu];omega)
 rintro ⟨j,L,c⟩ rec3 ⟨j1,j2,j3⟩ ih3
 simp only at j1 j2 j3 ⊢
 obtain⟨rfl,rfl⟩:=Prod.mk.inj j3
 have jbv:((G.take j.toNat).map kh6++G.drop j.toNat).length=G.length:=by rw[List.length_append,List.length_map,List.length_take,List.length_drop];omega
 refine jac (fun hlt=>?_) fun hge=>?_
 ·refine jab (jb2 (by omega) (by omega)) (jab (jb2 (by omega) (by omega)) (jab (jaq (by omega) (by omega)) (ih3 _ ⟨by simp only;omega,by simp only;omega,?_⟩ (by simp only;omega))))
  simp only
  have eg:((G.take j.toNat).map kh6++G.drop j.toNat).getD j.toNat ((0,0),(false,0))=G[j.toNat]'(by omega):=by
   rw[List.getD,List.getElem?_append_right (by rw[List.length_map,List.length_take];omega),List.getElem?_drop,List.length_map,List.length_take,show j.toNat+ (j.toNat-min j.toNat G.length)=j.toNat by omega,List.getElem?_eq_getElem (by omega)]
   rfl
  rw[eg]
  have hbb:=hb _ (List.getElem_mem (l:=G) (n:=j.toNat) (by omega))
  rw[kd9 hbb]
  refine Prod.ext ?_ rfl
  simp only
  rw[show(j+1).toNat=j.toNat+1 by omega,jm4 (by omega),List.append_assoc]
  refine List.ext_getElem? fun i=>?_
  rw[List.getElem?_set]
  by_cases e:j.toNat=i
  ·subst e
   rw[if_pos rfl,if_pos (by omega),List.getElem?_append_right (by rw[List.length_map,List.length_take];omega),List.length_map,List.length_take,show j.toNat-min j.toNat G.length=0 by omega]
   rfl
  ·rw[if_neg e]
   by_cases c:i<j.toNat
   ·rw[List.getElem?_append_left (by rw[List.length_map,List.length_take];omega),List.getElem?_append_left (by rw[List.length_map,List.length_take];omega)]
   ·rw[List.getElem?_append_right (by rw[List.length_map,List.length_take];omega),List.getElem?_append_right (by rw[List.length_map,List.length_take];omega),List.length_map,List.length_take,List.getElem?_drop,show i-min j.toNat G.length=(i-j.toNat-1)+1 by omega,List.cons_append,List.nil_append,List.getElem?_cons_succ,List.getElem?_drop]
    congr 1
    omega
 have e1:G.take j.toNat=G:=List.take_of_length_le (by omega)
 have e2:G.drop j.toNat=[]:=List.drop_of_length_le (by omega)
 rw[e1,e2,List.append_nil]
 exact jab (by simp[jkb]) (jak rfl)
theorem jlq {t:Int} {c a b:SqT} (h:mvS t c a=mvS t c b):a=b:=by
 unfold mvS at h
 obtain⟨h1,h2⟩:=Prod.mk.inj h
 have e1:(tS t a).1=(tS t b).1:=by omega
 have e2:(tS t a).2=(tS t b).2:=by omega
 clear h h1 h2
 unfold tS at e1 e2
 repeat' split at e1
 all_goals simp only[*,if_true,if_false] at e2
 all_goals first
  | exact Prod.ext (by simp at e1 e2;omega) (by simp at e1 e2;omega)
  | exact Prod.ext (by simp_all) (by simp_all)
def kd4 (a b:SqT):Prop:=b=(a.1+1,a.2)∨b=(a.1,a.2+1)∨a=(b.1+1,b.2)∨a=(b.1,b.2+1)
theorem j7n (h:HgT):kd4 h.1 (ja8 h):=by
 unfold kd4 ja8
 by_cases c:h.2.1=true
 ·rw[if_pos c];exact .inr (.inl rfl)
 ·rw[if_neg c];exact .inl rfl
theorem kau {t:Int} {c a b:SqT} (ht:0≤t∧t≤7) (h:kd4 a b):kd4 (mvS t c a) (mvS t c b):=by
 obtain⟨a1,a2⟩:=a
 obtain⟨b1,b2⟩:=b
 unfold kd4 at h ⊢
 simp only[Prod.mk.injEq] at h
 rcases(by omega:t=0∨t=1∨t=2∨t=3∨t=4∨t=5∨t=6∨t=7) with rfl | rfl | rfl | rfl | rfl | rfl | rfl | rfl<;>
  (simp[mvS,tS]<;>omega)
theorem kjh {a b:SqT} (h1:b.1=a.1+1) (h2:b.2=a.2) (d:Int):btw a b d=(a,(false,d))∧ja8 (a,(false,d))=b:=by
 refine⟨?_,Prod.ext (by simp[ja8,h1]) (by simp[ja8,h2])⟩
 have hn:¬ltS b a:=by unfold ltS;omega
 unfold btw
 rw[if_neg hn,decide_eq_false (by omega)]
theorem kjg {a b:SqT} (h1:b.1=a.1) (h2:b.2=a.2+1) (d:Int):btw a b d=(a,(true,d))∧ja8 (a,(true,d))=b:=by
 refine⟨?_,Prod.ext (by simp[ja8,h1]) (by simp[ja8,h2])⟩
 have hn:¬ltS b a:=by unfold ltS;omega
 unfold btw
 rw[if_neg hn,decide_eq_true h1.symm]
theorem kji {a b:SqT} (h1:a.1=b.1+1) (h2:a.2=b.2) (d:Int):btw a b d=(b,(false,d))∧ja8 (b,(false,d))=a:=by
 refine⟨?_,Prod.ext (by simp[ja8,h1]) (by simp[ja8,h2])⟩
 have hn:ltS b a:=by unfold ltS;omega
 unfold btw
 rw[if_pos hn,decide_eq_false (by omega)]
theorem kjj {a b:SqT} (h1:a.1=b.1) (h2:a.2=b.2+1) (d:Int):btw a b d=(b,(true,d))∧ja8 (b,(true,d))=a:=by
 refine⟨?_,Prod.ext (by simp[ja8,h1]) (by simp[ja8,h2])⟩
 have hn:ltS b a:=by unfold ltS;omega
 unfold btw
 rw[if_pos hn,decide_eq_true h1.symm]
theorem j2s {a b:SqT} {d:Int} (h:kd4 a b):((btw a b d).1=a∧ja8 (btw a b d)=b)∨((btw a b d).1=b∧ja8 (btw a b d)=a):=by
 rcases h with h | h | h | h
 ·obtain⟨e1,e2⟩:=kjh (a:=a) (b:=b) (by rw[h]) (by rw[h]) d
  rw[e1];exact .inl ⟨rfl,e2⟩
 ·obtain⟨e1,e2⟩:=kjg (a:=a) (b:=b) (by rw[h]) (by rw[h]) d
  rw[e1];exact .inl ⟨rfl,e2⟩
 ·obtain⟨e1,e2⟩:=kji (a:=a) (b:=b) (by rw[h]) (by rw[h]) d
  rw[e1];exact .inr ⟨rfl,e2⟩
 ·obtain⟨e1,e2⟩:=kjj (a:=a) (b:=b) (by rw[h]) (by rw[h]) d
  rw[e1];exact .inr ⟨rfl,e2⟩
theorem j9t {a b:SqT} {d:Int}:(btw a b d).2.2=d:=by unfold btw;split<;>rfl
def bk (t:Int):Int:=if t=1 then 3 else if t=3 then 1 else t
theorem j2m {α:Type} {cf:α→α→Int}:∀ {l:List α},l.Pairwise (fun a b=>cf a b<0)→jym cf l=true
 | [],_=>rfl
 | [x],_=>rfl
 | x::y::l,h=>by
   have h1:=(List.pairwise_cons.1 h).1 y (by simp)
   have h2:=j2m (List.pairwise_cons.1 h).2
   simp only[jym,Bool.and_eq_true,decide_eq_true_eq]
   exact⟨h1,by simpa only[jym,Bool.and_eq_true] using h2⟩
theorem j66 {x y:HgT}:cfH x y<0↔ltH x y:=by
 rw[j2p,j4r,j4r]
 unfold ltH ltS
 rw[show(x.1=y.1)↔(x.1.1=y.1.1∧x.1.2=y.1.2) from Prod.ext_iff]
 omega
theorem kb7 {x y:HgT} (h:¬(x.1=y.1∧x.2.1=y.2.1)):ltH x y∨ltH y x:=by
 unfold ltH
 rcases j0c x.1 y.1 with c | c | c
 ·exact .inl (.inl c)
 ·have:jpw x≠jpw y:=fun e=>h ⟨c,j4s.1 e⟩
  by_cases g:jpw x<jpw y
  ·exact .inl (.inr ⟨c,g⟩)
  ·exact .inr (.inr ⟨c.symm,by omega⟩)
 ·exact .inr (.inl c)
theorem jvu {α:Type} {R:α→α→Prop} (hs:∀ {a b},R a b→R b a) {l m:List α} (p:l.Perm m) (h:l.Pairwise R):m.Pairwise R:=p.pairwise h fun hab=>hs hab
theorem kj0 {L:List HgT} (h:KD L):okH L=true∧(jla cfH L).Pairwise ltH∧∀g,g∈jla cfH L↔g∈L:=by
 have p:=jco cfH L
 have h1:=jk9 cfH kit L
 have h2:(jla cfH L).Pairwise fun a b=>¬(a.1=b.1∧a.2.1=b.2.1):=jvu (fun {a b} hab c=>hab ⟨c.1.symm,c.2.symm⟩) p.symm h
 have h3:(jla cfH L).Pairwise ltH:=(h1.and h2).imp fun {a b} ⟨x,y⟩=>by
  rw[j66] at x
  rcases kb7 y with c | c
  ·exact c
  ·exact absurd c x
 exact⟨j2m (h3.imp fun {a b} c=>j66.2 c),h3,fun g=>p.mem_iff⟩
theorem j99 (h:HgT):ltS h.1 (ja8 h):=by
 obtain⟨⟨x,y⟩,u,b⟩:=h
 unfold ltS ja8
 cases u<;>simp<;>omega
theorem kb5 {t:Int} {c:SqT} (ht:0≤t∧t≤7) {g h:HgT} (e1:(mvH t c g).1=(mvH t c h).1) (e2:(mvH t c g).2.1=(mvH t c h).2.1):g.1=h.1∧g.2.1=h.2.1:=by
 have eo:ja8 (mvH t c g)=ja8 (mvH t c h):=by unfold ja8;rw[e1,e2]
 have up:g.1=h.1→ja8 g=ja8 h→g.1=h.1∧g.2.1=h.2.1:=fun a b=>by
  refine⟨a,?_⟩
  unfold ja8 at b
  rw[a] at b
  cases x:g.2.1<;>cases y:h.2.1<;>rw[x,y] at b<;>simp[Prod.ext_iff] at b ⊢<;>omega
 have no:g.1=ja8 h→ja8 g=h.1→False:=fun a b=>by
  have l1:=j99 g
  have l2:=j99 h
  rw[a,b] at l1
  exact jj8 _ (jfr l1 l2)
 unfold mvH at e1 eo
 rcases j2s (d:=g.2.2) (kau (c:=c) ht (j7n g)) with⟨a1,a2⟩ | ⟨a1,a2⟩<;>rcases j2s (d:=h.2.2) (kau (c:=c) ht (j7n h)) with⟨b1,b2⟩ | ⟨b1,b2⟩
 all_goals rw[a1,b1] at e1
 all_goals rw[a2,b2] at eo
 ·exact up (jlq e1) (jlq eo)
 ·exact(no (jlq e1) (jlq eo)).elim
 ·exact(no (jlq eo) (jlq e1)).elim
 ·exact up (jlq eo) (jlq e1)
theorem kab {t:Int} {c:SqT} {H:List HgT} (ht:0≤t∧t≤7) (h:KD H):KD (H.map (mvH t c)):=by
 unfold KD at *
 rw[List.pairwise_map]
 exact h.imp fun {a b} hne e=>hne (kb5 ht e.1 e.2)
end X
end Go.Vm
namespace Go.Vm
namespace X
open W
variable {nn:Nat}
def Rch (S:List SqT) (H:List HgT) (s:SqT):Prop:=∀C:SqT→Prop,C (S.getD 0 (0,0))→(∀h∈H,(C h.1↔C (ja8 h)))→C s
theorem Rch.start {S:List SqT} {H:List HgT}:Rch S H (S.getD 0 (0,0)):=fun C h _=>h
theorem Rch.step {S:List SqT} {H:List HgT} {h:HgT} (hh:h∈H):Rch S H h.1↔Rch S H (ja8 h):=
 ⟨fun r C h0 hc=>(hc h hh).1 (r C h0 hc),fun r C h0 hc=>(hc h hh).2 (r C h0 hc)⟩
def RI (S:List SqT) (H:List HgT) (y:Int):Prop:=(0≤y∧y<S.length)∧Rch S H (S.getD y.toNat (0,0))
theorem jq6 {S:List SqT} {H:List HgT} (h:∀s∈S,Rch S H s):j09 S H:=fun C ⟨s,hs,hc⟩ hh u hu=>by
 by_cases h0:C (S.getD 0 (0,0))
 ·exact h u hu C h0 hh
 ·exact absurd hc (h s hs (fun x=>¬C x) h0 fun g hg=>not_congr (hh g hg))
theorem j0f {S:List SqT} {H:List HgT} (h:Ends S H) (hne:1≤S.length) (hH:H.length≤10000):Ret (jci (fu nn) (S,H)) fun o=>o.Nodup∧(∀x∈o,RI S H x)∧(0:Int)∈o∧∀g∈H,(idxS S g.1∈o↔idxS S (ja8 g)∈o):=by
 have hle:=h.le
 unfold jci
 refine ja0 (Inv:=fun x:List Int×Int=>0≤x.2∧x.2≤x.1.length∧x.1.Nodup∧(∀y∈x.1,RI S H y)∧(0:Int)∈x.1∧∀m:Nat,(m:Int)<x.2→∀g∈H,(idxS S g.1=x.1.getD m 0→idxS S (ja8 g)∈x.1)∧(idxS S (ja8 g)=x.1.getD m 0→idxS S g.1∈x.1)) (m:=fun x=>((S.length:Int)-x.2).toNat) ?_ _ _ ⟨by simp,by simp,by simp,fun y hy=>by simp at hy;subst hy;exact⟨by omega,Rch.start⟩,by simp,fun m hm=>by simp only at hm;omega⟩ (by simp only[fu];omega)
 rintro ⟨o,k⟩ rec ⟨i1,i2,i3,i4,i5,i6⟩ ih
 simp only at i1 i2 i3 i4 i5 i6 ⊢
 have cnt:∀q:List Int,q.Nodup→(∀y∈q,0≤y∧y<S.length)→q.length≤S.length:=fun q a b=>by
  have:=jj9 a (p:=j1e S.length) fun x hx=>jo8.2 (b x hx)
  simpa[j1e] using this
 have hol:=cnt o i3 fun y hy=>(i4 y hy).1
 refine jac (fun hlt=>?_) fun hge=>?_
 ·refine ja0 (Inv:=fun x:List Int×Int=>0≤x.2∧x.2≤H.length∧x.1.Nodup∧(∀y∈x.1,RI S H y)∧(∃more,x.1=o++more)∧∀m:Nat,(m:Int)<x.2→(idxS S (H.getD m hZ).1=o.getD k.toNat 0→idxS S (ja8 (H.getD m hZ))∈x.1)∧(idxS S (ja8 (H.getD m hZ))=o.getD k.toNat 0→idxS S (H.getD m hZ).1∈x.1)) (m:=fun x=>((H.length:Int)-x.2).toNat) ?_ _ _ ⟨by simp,by simp,i3,i4,⟨[],by simp⟩,fun m hm=>by simp only at hm;omega⟩ (by simp only[fu];omega)
  rintro ⟨p,i⟩ rec2 ⟨j1,j2,j3,j4,⟨more,j5⟩,j6⟩ ih2
  simp only at j1 j2 j3 j4 j5 j6 ⊢
  have hpl:=cnt p j3 fun y hy=>(j4 y hy).1
  have gk:p.getD k.toNat 0=o.getD k.toNat 0:=by rw[j5,List.getD,List.getD,List.getElem?_append_left (by omega)]
  have hpo:o.length≤p.length:=by rw[j5,List.length_append];omega
  refine jac (fun hlt2=>?_) fun hge2=>?_
  ·have hg:=jdv (H:=H) (i:=i.toNat) (by omega)
   obtain⟨e1,e2⟩:=h.ends _ hg
   refine jab (jb2 (by omega) (by omega)) ?_
   rw[show jal (fu nn) ((S,H),((H.getD i.toNat hZ).1.1,(H.getD i.toNat hZ).1.2))=some (idxS S (H.getD i.toNat hZ).1) from jez h.srt (by omega) _,Option.bind_some,
    show jao (fu nn) (((H.getD i.toNat hZ).1.1,(H.getD i.toNat hZ).1.2),((H.getD i.toNat hZ).2.1,(H.getD i.toNat hZ).2.2))=some (ja8 (H.getD i.toNat hZ)) from h.other hg,Option.bind_some,
    show jal (fu nn) ((S,H),((ja8 (H.getD i.toNat hZ)).1,(ja8 (H.getD i.toNat hZ)).2))=some (idxS S (ja8 (H.getD i.toNat hZ))) from jez h.srt (by omega) _,Option.bind_some]
   have a1:=jef e1
   have a2:=jef e2
   have hne':idxS S (H.getD i.toNat hZ).1≠idxS S (ja8 (H.getD i.toNat hZ)):=fun c=>j98 _ (j2c e1 e2 c).symm
   refine jab (jb2 (by omega) (by omega)) ?_
   rw[gk]
   have nxt:∀q:List Int,q.Nodup→(∀y∈q,RI S H y)→(∃more',q=p++more')→((idxS S (H.getD i.toNat hZ).1=o.getD k.toNat 0→idxS S (ja8 (H.getD i.toNat hZ))∈q)∧(idxS S (ja8 (H.getD i.toNat hZ))=o.getD k.toNat 0→idxS S (H.getD i.toNat hZ).1∈q))→Ret (chk (jap (i+1)) (rec2 (q,i+1))) fun o=>o.Nodup∧(∀x∈o,RI S H x)∧(0:Int)∈o∧∀g∈H,(idxS S g.1∈o↔idxS S (ja8 g)∈o):=fun q q1 q2 ⟨more',q3⟩ q4=>by
    refine jab (jaq (by omega) (by omega)) (ih2 _ ⟨by simp only;omega,by simp only;omega,q1,q2,⟨more++more',by simp only;rw[q3,j5,List.append_assoc]⟩,fun m hm=>?_⟩ (by simp only;omega))
    simp only at hm ⊢
    by_cases e:(m:Int)=i
    ·rw[show m=i.toNat by omega];exact q4
    ·have:=j6 m (by omega)
     exact⟨fun c=>by rw[q3];exact List.mem_append_left _ (this.1 c),fun c=>by rw[q3];exact List.mem_append_left _ (this.2 c)⟩
   have rr:Rch S H (S.getD (idxS S (H.getD i.toNat hZ).1).toNat (0,0))↔Rch S H (S.getD (idxS S (ja8 (H.getD i.toNat hZ))).toNat (0,0)):=by rw[a1.2.2,a2.2.2];exact Rch.step hg
   have ok:Rch S H (S.getD (o.getD k.toNat 0).toNat (0,0)):=(i4 _ (j2g (by omega))).2
   generalize idxS S (H.getD i.toNat hZ).1=a at *
   generalize idxS S (ja8 (H.getD i.toNat hZ))=b at *
   have add:∀y:Int,RI S H y→(∀q:List Int,y∈q→(a=o.getD k.toNat 0→b∈q)∧(b=o.getD k.toNat 0→a∈q))→Ret ((jbl (fu nn) (p,y)).bind fun r7=>bif(!r7) then(chk (jnq (p.length+1)) (chk (jap (i+1)) (rec2 ((p++[y]),(i+1))))) else(chk (jap (i+1)) (rec2 (p,(i+1))))) fun o=>o.Nodup∧(∀x∈o,RI S H x)∧(0:Int)∈o∧∀g∈H,(idxS S g.1∈o↔idxS S (ja8 g)∈o):=fun y hy hq=>by
    rw[jq1 (by omega),Option.bind_some]
    by_cases hm:y∈p
    ·rw[decide_eq_true hm]
     exact nxt p j3 j4 ⟨[],by simp⟩ (hq p hm)
    ·rw[decide_eq_false hm]
     refine jab (js7 (by omega)) (nxt (p++[y]) ?_ (fun z hz=>?_) ⟨[y],rfl⟩ (hq _ (by simp)))
     ·rw[List.nodup_append]
      exact⟨j3,by simp,fun u hu v hv e=>hm (by simp at hv;rw[←hv,←e];exact hu)⟩
     ·rcases List.mem_append.1 hz with c | c
      ·exact j4 z c
      ·simp at c;rw[c];exact hy
   refine jh2 (fun x:Int×Int=>(x=(b,a)∧b=o.getD k.toNat 0)∨(x=(a,b)∧b≠o.getD k.toNat 0)) (fun x hx=>?_) fun j hj=>?_
   ·refine jab (jb2 (by omega) (by omega)) ?_
    rcases hx with⟨rfl,hb⟩ | ⟨rfl,hb⟩
    ·refine jac (fun _=>add a ⟨by omega,rr.2 (by rw[hb];exact ok)⟩ fun q hq=>⟨fun c=>absurd (c.trans hb.symm) hne',fun _=>hq⟩) fun g=>absurd hb g
    ·refine jac (fun ha=>add b ⟨by omega,rr.1 (by rw[show a=o.getD k.toNat 0 from ha];exact ok)⟩ fun q hq=>⟨fun _=>hq,fun c=>absurd c hb⟩) fun ha=>nxt p j3 j4 ⟨[],by simp⟩ ⟨fun c=>absurd c ha,fun c=>absurd c hb⟩
   ·exact jac (fun g=>hj _ (.inl ⟨rfl,g⟩)) fun g=>hj _ (.inr ⟨rfl,g⟩)
  ·refine jab (jaq (by omega) (by omega)) (ih _ ⟨by simp only;omega,by simp only;omega,j3,j4,by simp only;rw[j5];exact List.mem_append_left _ i5,fun m hm g hg=>?_⟩ (by simp only;omega))
   simp only at hm ⊢
   by_cases e:(m:Int)=k
   ·obtain⟨q,hq,rfl⟩:=List.mem_iff_getElem.1 hg
    have:=j6 q (by omega)
    rw[List.getD,List.getElem?_eq_getElem hq,Option.getD_some] at this
    rw[show m=k.toNat by omega,gk]
    exact this
   ·have:=i6 m (by omega) g hg
    have gm:p.getD m 0=o.getD m 0:=by rw[j5,List.getD,List.getD,List.getElem?_append_left (by omega)]
    rw[gm]
    exact⟨fun c=>by rw[j5];exact List.mem_append_left _ (this.1 c),fun c=>by rw[j5];exact List.mem_append_left _ (this.2 c)⟩
 ·refine jak ⟨i3,i4,i5,fun g hg=>?_⟩
  have at_:∀y∈o,∃m:Nat,(m:Int)<k∧o.getD m 0=y:=fun y hy=>by
   obtain⟨m,hm,e⟩:=List.mem_iff_getElem.1 hy
   exact⟨m,by omega,by rw[List.getD,List.getElem?_eq_getElem hm];exact e⟩
  constructor
  ·intro c
   obtain⟨m,hm,e⟩:=at_ _ c
   exact(i6 m hm g hg).1 e.symm
  ·intro c
   obtain⟨m,hm,e⟩:=at_ _ c
   exact(i6 m hm g hg).2 e.symm
structure Good (S:List SqT) (H:List HgT):Prop where
 srt:Sorted S
 bd:∀s∈S,(-64≤s.1∧s.1≤64)∧(-64≤s.2∧s.2≤64)
 ge:1≤S.length
 hs:H.Pairwise ltH
 bend:∀h∈H, -1≤h.2.2∧h.2.2≤1
def jvi (S:List SqT) (H:List HgT):Prop:=∀h∈H,h.1∈S∧ja8 h∈S
def ChkR (S:List SqT) (H:List HgT) (r:Int):Prop:=
 (64<S.length∧r=3)∨(S.length≤64∧((¬Good S H∧r=1)∨(Good S H∧((¬jvi S H∧r=7)∨(jvi S H∧((¬j09 S H∧r=14)∨(j09 S H∧r=0)))))))
theorem ChkR.uniq {S:List SqT} {H:List HgT} {r r':Int} (h:ChkR S H r) (k:ChkR S H r'):r=r':=by
 rcases h with⟨a,rfl⟩ | ⟨a,⟨b,rfl⟩ | ⟨b,⟨c,rfl⟩ | ⟨c,⟨d,rfl⟩ | ⟨d,rfl⟩⟩⟩⟩<;>rcases k with⟨a',rfl⟩ | ⟨a',⟨b',rfl⟩ | ⟨b',⟨c',rfl⟩ | ⟨c',⟨d',rfl⟩ | ⟨d',rfl⟩⟩⟩⟩<;>first | rfl | omega | exact absurd b' b | exact absurd b b' | exact absurd c' c | exact absurd c c' | exact absurd d' d | exact absurd d d'
theorem ChkR.net {S:List SqT} {H:List HgT} (h:ChkR S H 0):NetOK S H:=by
 rcases h with⟨_,e⟩ | ⟨a,⟨_,e⟩ | ⟨b,⟨_,e⟩ | ⟨c,⟨_,e⟩ | ⟨d,_⟩⟩⟩⟩
 ·cases e
 ·cases e
 ·cases e
 ·cases e
 ·exact⟨a,b.ge,b.srt,b.bd,b.hs,b.bend,c,d⟩
theorem jjd {α:Type} {R:α→α→Prop} (ht:∀a b c,R a b→R b c→R a c) (d:α):∀ {L:List α},(∀k:Nat,0<k→k<L.length→R (L.getD (k-1) d) (L.getD k d))→L.Pairwise R
 | [],_=>List.Pairwise.nil
 | [x],_=>List.pairwise_singleton _ _
 | x::y::L,h=>by
   have ih:=jjd ht d (L:=y::L) fun k h1 h2=>by
    have:=h (k+1) (by omega) (by simp at h2 ⊢;omega)
    obtain⟨k,rfl⟩:∃j,k=j+1:=⟨k-1,by omega⟩
    exact this
   have h01:R x y:=h 1 (by omega) (by simp)
   refine List.pairwise_cons.2 ⟨fun a ha=>?_,ih⟩
   rcases List.mem_cons.1 ha with rfl | ha
   ·exact h01
   ·exact ht _ _ _ h01 ((List.pairwise_cons.1 ih).1 a ha)
theorem jl9 {α:Type} {R:α→α→Prop} (d:α) {L:List α} (h:L.Pairwise R) {k:Nat} (h1:0<k) (h2:k<L.length):R (L.getD (k-1) d) (L.getD k d):=by
 rw[List.getD,List.getElem?_eq_getElem (by omega),List.getD,List.getElem?_eq_getElem h2]
 exact List.pairwise_iff_getElem.1 h _ _ (by omega) h2 (by omega)
theorem jx3 {a b c:HgT} (h:ltH a b) (k:ltH b c):ltH a c:=by
 unfold ltH at *
 rcases h with h | ⟨h,h'⟩<;>rcases k with k | ⟨k,k'⟩
 ·exact .inl (jfr h k)
 ·rw[←k];exact .inl h
 ·rw[h];exact .inl k
 ·exact .inr ⟨h.trans k,by omega⟩
theorem jma {α:Type} (d:α) {L:List α} {P:α→Prop} (h:∀k:Nat,k<L.length→P (L.getD k d)):∀x∈L,P x:=fun x hx=>by
 obtain⟨k,hk,rfl⟩:=List.mem_iff_getElem.1 hx
 have:=h k hk
 rw[List.getD,List.getElem?_eq_getElem hk] at this
 exact this
theorem j4m {S:List SqT} {H:List HgT} (hS:S.length≤70) (hH:H.length≤1000):Ret (jba (fu nn) (S,H)) (ChkR S H):=by
 unfold jba
 simp only
 refine jac (fun g=>jak (.inl ⟨by omega,rfl⟩)) fun h64=>?_
 have bad:¬Good S H→Ret (some (1:Int)) (ChkR S H):=fun h=>jak (.inr ⟨by omega,.inl ⟨h,rfl⟩⟩)
 refine ja0 (Inv:=fun x:Int=>0≤x∧x≤S.length∧∀k:Nat,(k:Int)<x→((-64≤(S.getD k (0,0)).1∧(S.getD k (0,0)).1≤64)∧(-64≤(S.getD k (0,0)).2∧(S.getD k (0,0)).2≤64))∧(0<k→ltS (S.getD (k-1) (0,0)) (S.getD k (0,0)))) (m:=fun x=>((S.length:Int)-x).toNat) ?_ _ _ ⟨by simp,by simp,fun k hk=>by omega⟩ (by simp only[fu];omega)
 rintro i rec ⟨i1,i2,i3⟩ ih
 refine jac (fun hlt=>?_) fun hge'=>?_
 ·have hm:=jdu (L:=S) (i:=i.toNat) (by omega)
  refine jab (jb2 (by omega) (by omega)) (jac (fun g=>bad fun c=>by have:=c.bd _ hm;omega) fun g1=>jac (fun g=>bad fun c=>by have:=c.bd _ hm;omega) fun g2=>jac (fun g=>bad fun c=>by have:=c.bd _ hm;omega) fun g3=>jac (fun g=>bad fun c=>by have:=c.bd _ hm;omega) fun g4=>?_)
  have nxt:(0<i.toNat→ltS (S.getD (i.toNat-1) (0,0)) (S.getD i.toNat (0,0)))→Ret (chk (jap (i+1)) (rec (i+1))) (ChkR S H):=fun hl=>jab (jaq (by omega) (by omega)) (ih _ ⟨by omega,by omega,fun k hk=>by
   by_cases e:(k:Int)=i
   ·rw[show k=i.toNat by omega];exact⟨by omega,hl⟩
   ·exact i3 k (by omega)⟩ (by omega))
  refine jac (fun g=>?_) fun g=>nxt fun c=>by omega
  refine jab (jaq (by omega) (by omega)) (jab (jb2 (by omega) (by omega)) ?_)
  rw[show jan (fu nn) (((S.getD (i-1).toNat (0,0)).1,(S.getD (i-1).toNat (0,0)).2),((S.getD i.toNat (0,0)).1,(S.getD i.toNat (0,0)).2))=some (jzi (S.getD (i-1).toNat (0,0)) (S.getD i.toNat (0,0))) from jhf _ _,Option.bind_some,show(i-1).toNat=i.toNat-1 by omega]
  refine jac (fun g5=>bad fun c=>?_) fun g5=>nxt fun _=>jnw.1 (by omega)
  have:=jnw.2 (jl9 (0,0) c.srt (k:=i.toNat) (by omega) (by omega))
  omega
 have gS:(∀s∈S,(-64≤s.1∧s.1≤64)∧(-64≤s.2∧s.2≤64))∧Sorted S:=⟨jma (0,0) fun k hk=>(i3 k (by omega)).1,jjd (R:=ltS) (fun _ _ _=>jfr) (0,0) fun k h1 h2=>(i3 k (by omega)).2 h1⟩
 clear i1 i2 i3 hge' ih
 refine ja0 (Inv:=fun x:Int=>0≤x∧x≤H.length∧∀k:Nat,(k:Int)<x→(-1≤(H.getD k hZ).2.2∧(H.getD k hZ).2.2≤1)∧(0<k→ltH (H.getD (k-1) hZ) (H.getD k hZ))) (m:=fun x=>((H.length:Int)-x).toNat) ?_ _ _ ⟨by simp,by simp,fun k hk=>by omega⟩ (by simp only[fu];omega)
 rintro i rec ⟨i1,i2,i3⟩ ih
 refine jac (fun hlt=>?_) fun hge'=>?_
 ·have hm:=jdv (H:=H) (i:=i.toNat) (by omega)
  change Ret (chk _ (bif decide ((H.getD i.toNat hZ).2.2 < -1) then _ else bif decide ((1:Int)< (H.getD i.toNat hZ).2.2) then _ else _)) _
  refine jab (jb2 (by omega) (by omega)) (jac (fun g=>bad fun c=>by have:=c.bend _ hm;omega) fun g1=>jac (fun g=>bad fun c=>by have:=c.bend _ hm;omega) fun g2=>?_)
  have nxt:(0<i.toNat→ltH (H.getD (i.toNat-1) hZ) (H.getD i.toNat hZ))→Ret (chk (jap (i+1)) (rec (i+1))) (ChkR S H):=fun hl=>jab (jaq (by omega) (by omega)) (ih _ ⟨by omega,by omega,fun k hk=>by
   by_cases e:(k:Int)=i
   ·rw[show k=i.toNat by omega];exact⟨by omega,hl⟩
   ·exact i3 k (by omega)⟩ (by omega))
  refine jac (fun g=>?_) fun g=>nxt fun c=>by omega
  refine jab (jaq (by omega) (by omega)) (jab (jb2 (by omega) (by omega)) ?_)
  obtain⟨r,hr,hr2⟩:=jxr (nn:=nn) (H.getD (i-1).toNat hZ) (H.getD i.toNat hZ)
  rw[show jb8 (fu nn) ((((H.getD (i-1).toNat hZ).1.1,(H.getD (i-1).toNat hZ).1.2),((H.getD (i-1).toNat hZ).2.1,(H.getD (i-1).toNat hZ).2.2)),(((H.getD i.toNat hZ).1.1,(H.getD i.toNat hZ).1.2),((H.getD i.toNat hZ).2.1,(H.getD i.toNat hZ).2.2)))=some r from hr,Option.bind_some]
  rw[show(i-1).toNat=i.toNat-1 by omega] at hr2
  refine jac (fun g5=>bad fun c=>absurd (jl9 hZ c.hs (k:=i.toNat) (by omega) (by omega)) (hr2.1 g5)) fun g5=>nxt fun _=>Classical.byContradiction fun c=>g5 (hr2.2 c)
 have gH:(∀h∈H, -1≤h.2.2∧h.2.2≤1)∧H.Pairwise ltH:=⟨jma hZ fun k hk=>(i3 k (by omega)).1,jjd (R:=ltH) (fun _ _ _=>jx3) hZ fun k h1 h2=>(i3 k (by omega)).2 h1⟩
 clear i1 i2 i3 hge' ih
 refine jac (fun g=>bad fun c=>by have:=c.ge;omega) fun hne=>?_
 have good:Good S H:=⟨gS.2,gS.1,by omega,gH.2,gH.1⟩
 refine ja0 (Inv:=fun x:Int=>0≤x∧x≤H.length∧∀k:Nat,(k:Int)<x→(H.getD k hZ).1∈S∧ja8 (H.getD k hZ)∈S) (m:=fun x=>((H.length:Int)-x).toNat) ?_ _ _ ⟨by simp,by simp,fun k hk=>by omega⟩ (by simp only[fu];omega)
 rintro i rec ⟨i1,i2,i3⟩ ih
 have b7:¬jvi S H→Ret (some (7:Int)) (ChkR S H):=fun h=>jak (.inr ⟨by omega,.inr ⟨good,.inl ⟨h,rfl⟩⟩⟩)
 refine jac (fun hlt=>?_) fun hge'=>?_
 ·have hm:=jdv (H:=H) (i:=i.toNat) (by omega)
  refine jab (jb2 (by omega) (by omega)) ?_
  rw[show jal (fu nn) ((S,H),((H.getD i.toNat hZ).1.1,(H.getD i.toNat hZ).1.2))=some (idxS S (H.getD i.toNat hZ).1) from jez good.srt (by omega) _,Option.bind_some]
  refine jac (fun g=>b7 fun c=>jrp.1 g (c _ hm).1) fun g=>?_
  have hin:(H.getD i.toNat hZ).1∈S:=Classical.byContradiction fun c=>g (jrp.2 c)
  have hb:=good.bd _ hin
  rw[show jao (fu nn) (((H.getD i.toNat hZ).1.1,(H.getD i.toNat hZ).1.2),((H.getD i.toNat hZ).2.1,(H.getD i.toNat hZ).2.2))=some (ja8 (H.getD i.toNat hZ)) from jvx (h:=H.getD i.toNat hZ) (by omega),Option.bind_some,
   show jal (fu nn) ((S,H),((ja8 (H.getD i.toNat hZ)).1,(ja8 (H.getD i.toNat hZ)).2))=some (idxS S (ja8 (H.getD i.toNat hZ))) from jez good.srt (by omega) _,Option.bind_some]
  refine jac (fun g=>b7 fun c=>jrp.1 g (c _ hm).2) fun g2=>jab (jaq (by omega) (by omega)) (ih _ ⟨by omega,by omega,fun k hk=>?_⟩ (by omega))
  by_cases e:(k:Int)=i
  ·rw[show k=i.toNat by omega];exact⟨hin,Classical.byContradiction fun c=>g2 (jrp.2 c)⟩
  ·exact i3 k (by omega)
 have hE:jvi S H:=jma hZ fun k hk=>i3 k (by omega)
 have ends:Ends S H:=⟨good.srt,by omega,good.bd,hE⟩
 refine jfv (j0f ends good.ge (by omega)) fun o ⟨o1,o2,o3,o4⟩=>?_
 have fin:(¬j09 S H∧(o.length:Int)<S.length)∨(j09 S H∧¬(o.length:Int)<S.length):=by
  by_cases hl:o.length<S.length
  ·refine .inl ⟨fun hc=>?_,by omega⟩
   have all:∀s∈S,idxS S s∈o:=hc (fun s=>idxS S s∈o) ⟨_,jdu (L:=S) (i:=0) (by omega),by
    rw[jnt good.srt.nodup (by omega)];exact o3⟩ o4
   have:=jj9 (l:=j1e S.length) (p:=o) (by
    unfold j1e
    exact List.nodup_range.map (f:=Int.ofNat) (fun a b h h2=>h (Int.ofNat.inj h2))) fun x hx=>by
     have hx:=jo8.1 hx
     have:=all _ (jdu (L:=S) (i:=x.toNat) (by omega))
     rw[jnt good.srt.nodup (by omega)] at this
     rwa[show((x.toNat:Nat):Int)=x by omega] at this
   have h2:S.length≤o.length:=by simpa[j1e] using this
   omega
  ·refine .inr ⟨jq6 fun s hs=>?_,by omega⟩
   have hi:=jef hs
   have hin:idxS S s∈o:=Classical.byContradiction fun c=>by
    have:=jj9 (l:=idxS S s::o) (p:=j1e S.length) (List.nodup_cons.2 ⟨c,o1⟩) fun x hx=>jo8.2 (by
     rcases List.mem_cons.1 hx with rfl | hx
     ·omega
     ·exact(o2 x hx).1)
    simp[j1e] at this
    omega
   have:=(o2 _ hin).2
   rw[hi.2.2] at this
   exact this
 rcases fin with⟨f1,f2⟩ | ⟨f1,f2⟩
 ·exact jac (fun _=>jak (.inr ⟨by omega,.inr ⟨good,.inr ⟨hE,.inl ⟨f1,rfl⟩⟩⟩⟩)) fun g=>absurd f2 g
 ·exact jac (fun g=>absurd g f2) fun _=>jak (.inr ⟨by omega,.inr ⟨good,.inr ⟨hE,.inr ⟨f1,rfl⟩⟩⟩⟩)
end X
end Go.Vm
namespace Go.Vm
namespace X
open W
variable {nn:Nat}
theorem j2t (g:HgT):kij g.1 (jpw g)=ja8 g:=by
 unfold kij jpw ja8
 cases g.2.1<;>rfl
structure RcI (S:List SqT) (H:List HgT) (o:List SqT):Prop where
 nd:o.Nodup
 mem:∀s∈o,s∈S∧Rch S H s
 first:S.getD 0 (0,0)∈o
theorem RcI.add {S:List SqT} {H:List HgT} {o:List SqT} (h:RcI S H o) {s:SqT} (hs:s∈S) (hr:Rch S H s) (hn:s∉o):RcI S H (o++[s]):=by
 refine⟨?_,fun t ht=>?_,List.mem_append_left _ h.first⟩
 ·rw[List.nodup_append]
  exact⟨h.nd,by simp,fun u hu v hv e=>hn (by simp at hv;rw[←hv,←e];exact hu)⟩
 ·rcases List.mem_append.1 ht with c | c
  ·exact h.mem t c
  ·simp at c;rw[c];exact⟨hs,hr⟩
theorem RcI.len {S:List SqT} {H:List HgT} {o:List SqT} (h:RcI S H o):o.length≤S.length:=jj9 h.nd fun s hs=>(h.mem s hs).1
set_option maxHeartbeats 1000000 in
theorem jyr {S:List SqT} {H:List HgT} (hS:S.length≤70) (hH:H.length≤1000):Ret (jdl (fu nn) (S,H)) (ChkR S H):=by
 unfold jdl
 simp only
 refine jac (fun g=>jak (.inl ⟨by omega,rfl⟩)) fun h64=>?_
 have bad:¬Good S H→Ret (some (1:Int)) (ChkR S H):=fun h=>jak (.inr ⟨by omega,.inl ⟨h,rfl⟩⟩)
 refine jac (fun g=>bad fun c=>by have:=c.ge;omega) fun hne=>?_
 refine ja0 (Inv:=fun x:Int=>0≤x∧x≤S.length∧∀k:Nat,(k:Int)<x→((-64≤(S.getD k (0,0)).1∧(S.getD k (0,0)).1≤64)∧(-64≤(S.getD k (0,0)).2∧(S.getD k (0,0)).2≤64))∧(0<k→ltS (S.getD (k-1) (0,0)) (S.getD k (0,0)))) (m:=fun x=>((S.length:Int)-x).toNat) ?_ _ _ ⟨by simp,by simp,fun k hk=>by omega⟩ (by simp only[fu];omega)
 rintro i rec ⟨i1,i2,i3⟩ ih
 refine jac (fun hlt=>?_) fun hge'=>?_
 ·have hm:=jdu (L:=S) (i:=i.toNat) (by omega)
  refine jab (jb2 (by omega) (by omega)) (jac (fun g=>bad fun c=>by have:=c.bd _ hm;omega) fun g1=>jac (fun g=>bad fun c=>by have:=c.bd _ hm;omega) fun g2=>jac (fun g=>bad fun c=>by have:=c.bd _ hm;omega) fun g3=>jac (fun g=>bad fun c=>by have:=c.bd _ hm;omega) fun g4=>?_)
  have nxt:(0<i.toNat→ltS (S.getD (i.toNat-1) (0,0)) (S.getD i.toNat (0,0)))→Ret (chk (jap (i+1)) (rec (i+1))) (ChkR S H):=fun hl=>jab (jaq (by omega) (by omega)) (ih _ ⟨by omega,by omega,fun k hk=>by
   by_cases e:(k:Int)=i
   ·rw[show k=i.toNat by omega];exact⟨by omega,hl⟩
   ·exact i3 k (by omega)⟩ (by omega))
  refine jac (fun g=>?_) fun g=>nxt fun c=>by omega
  refine jab (jaq (by omega) (by omega)) (jab (jb2 (by omega) (by omega)) ?_)
  rw[show jfe (fu nn) (((S.getD (i-1).toNat (0,0)).1,(S.getD (i-1).toNat (0,0)).2),((S.getD i.toNat (0,0)).1,(S.getD i.toNat (0,0)).2))=some (decide (ltS (S.getD (i-1).toNat (0,0)) (S.getD i.toNat (0,0)))) from j6f _ _,Option.bind_some,show(i-1).toNat=i.toNat-1 by omega]
  by_cases hl:ltS (S.getD (i.toNat-1) (0,0)) (S.getD i.toNat (0,0))
  ·rw[decide_eq_true hl]
   exact nxt fun _=>hl
  ·rw[decide_eq_false hl]
   exact bad fun c=>hl (jl9 (0,0) c.srt (k:=i.toNat) (by omega) (by omega))
 have gS:(∀s∈S,(-64≤s.1∧s.1≤64)∧(-64≤s.2∧s.2≤64))∧Sorted S:=⟨jma (0,0) fun k hk=>(i3 k (by omega)).1,jjd (R:=ltS) (fun _ _ _=>jfr) (0,0) fun k h1 h2=>(i3 k (by omega)).2 h1⟩
 clear i1 i2 i3 hge' ih
 refine ja0 (Inv:=fun x:Int=>0≤x∧x≤H.length∧∀k:Nat,(k:Int)<x→(-1≤(H.getD k hZ).2.2∧(H.getD k hZ).2.2≤1)∧(0<k→ltH (H.getD (k-1) hZ) (H.getD k hZ))) (m:=fun x=>((H.length:Int)-x).toNat) ?_ _ _ ⟨by simp,by simp,fun k hk=>by omega⟩ (by simp only[fu];omega)
 rintro i rec ⟨i1,i2,i3⟩ ih
 refine jac (fun hlt=>?_) fun hge'=>?_
 ·have hm:H.getD i.toNat ((0,0),(false,0))∈H:=jdv (H:=H) (i:=i.toNat) (by omega)
  have hpw:Good S H→0<i.toNat→ltH (H.getD (i.toNat-1) ((0,0),(false,0))) (H.getD i.toNat ((0,0),(false,0))):=fun c h0=>jl9 hZ c.hs h0 (by omega)
  have nxt:(-1≤(H.getD i.toNat ((0,0),(false,0))).2.2∧(H.getD i.toNat ((0,0),(false,0))).2.2≤1)→(0<i.toNat→ltH (H.getD (i.toNat-1) ((0,0),(false,0))) (H.getD i.toNat ((0,0),(false,0))))→Ret (chk (jap (i+1)) (rec (i+1))) (ChkR S H):=fun hb hl=>jab (jaq (by omega) (by omega)) (ih _ ⟨by omega,by omega,fun k hk=>by
   by_cases e:(k:Int)=i
   ·rw[show k=i.toNat by omega];exact⟨hb,hl⟩
   ·exact i3 k (by omega)⟩ (by omega))
  refine jab (jb2 (by omega) (by omega)) ?_
  have hprev:0<i→(i-1).toNat=i.toNat-1:=fun _=>by omega
  generalize H.getD i.toNat ((0,0),(false,0))=h at *
  refine jh2 (fun x=>(x=true∧¬(-1≤h.2.2∧h.2.2≤1))∨(x=false∧(-1≤h.2.2∧h.2.2≤1))) (fun x hx=>?_) fun j hj=>jac (fun g=>hj _ (.inl ⟨rfl,by omega⟩)) fun g=>?_
  rotate_left
  ·by_cases g2:1<h.2.2
   ·rw[decide_eq_true g2];exact hj _ (.inl ⟨rfl,by omega⟩)
   ·rw[decide_eq_false g2];exact hj _ (.inr ⟨rfl,by omega⟩)
  rcases hx with⟨rfl,hb⟩ | ⟨rfl,hb⟩
  ·exact bad fun c=>hb (c.bend h hm)
  simp only[cond_false]
  refine jac (fun g=>?_) fun g=>nxt hb fun c=>by omega
  refine jab (jaq (by omega) (by omega)) (jab (jb2 (by omega) (by omega)) ?_)
  rw[hprev g]
  have hpos:0<i.toNat:=by omega
  generalize H.getD (i.toNat-1) ((0,0),(false,0))=q at *
  rw[show jfe (fu nn) ((q.1.1,q.1.2),(h.1.1,h.1.2))=some (decide (ltS q.1 h.1)) from j6f _ _,Option.bind_some]
  by_cases hl:ltS q.1 h.1
  ·rw[decide_eq_true hl]
   exact nxt hb fun _=>.inl hl
  rw[decide_eq_false hl]
  simp only[Bool.not_false,cond_true]
  rw[show(decide (q.1.1=h.1.1)&&decide (q.1.2=h.1.2))=decide (q.1=h.1) from j8h _ _]
  have hlt2:ltH q h↔(q.1=h.1∧q.2.1=false∧h.2.1=true):=by
   unfold ltH jpw
   constructor
   ·rintro (c | ⟨c,d⟩)
    ·exact absurd c hl
    ·refine⟨c,?_⟩
     cases e1:q.2.1<;>cases e2:h.2.1<;>rw[e1,e2] at d<;>simp at d ⊢
   ·rintro ⟨c,d,e⟩
    exact .inr ⟨c,by rw[d,e];decide⟩
  by_cases he:q.1=h.1
  rotate_left
  ·rw[decide_eq_false he]
   exact bad fun c=>he (hlt2.1 (hpw c hpos)).1
  rw[decide_eq_true he]
  simp only[Bool.not_true,cond_false]
  cases e1:q.2.1 with
  | true=>exact bad fun c=>by have:=(hlt2.1 (hpw c hpos)).2.1;rw[e1] at this;cases this
  | false=>
    cases e2:h.2.1 with
    | false=>exact bad fun c=>by have:=(hlt2.1 (hpw c hpos)).2.2;rw[e2] at this;cases this
    | true=>exact nxt hb fun _=>hlt2.2 ⟨he,e1,e2⟩
 have gH:(∀h∈H, -1≤h.2.2∧h.2.2≤1)∧H.Pairwise ltH:=⟨jma hZ fun k hk=>(i3 k (by omega)).1,jjd (R:=ltH) (fun _ _ _=>jx3) hZ fun k h1 h2=>(i3 k (by omega)).2 h1⟩
 clear i1 i2 i3 hge' ih
 have good:Good S H:=⟨gS.2,gS.1,by omega,gH.2,gH.1⟩
 refine ja0 (Inv:=fun x:Int=>0≤x∧x≤H.length∧∀k:Nat,(k:Int)<x→(H.getD k hZ).1∈S∧ja8 (H.getD k hZ)∈S) (m:=fun x=>((H.length:Int)-x).toNat) ?_ _ _ ⟨by simp,by simp,fun k hk=>by omega⟩ (by simp only[fu];omega)
 rintro i rec ⟨i1,i2,i3⟩ ih
 have b7:¬jvi S H→Ret (some (7:Int)) (ChkR S H):=fun h=>jak (.inr ⟨by omega,.inr ⟨good,.inl ⟨h,rfl⟩⟩⟩)
 refine jac (fun hlt=>?_) fun hge'=>?_
 ·have hm:H.getD i.toNat ((0,0),(false,0))∈H:=jdv (H:=H) (i:=i.toNat) (by omega)
  have nxt:((H.getD i.toNat ((0,0),(false,0))).1∈S∧ja8 (H.getD i.toNat ((0,0),(false,0)))∈S)→Ret (chk (jap (i+1)) (rec (i+1))) (ChkR S H):=fun hin=>jab (jaq (by omega) (by omega)) (ih _ ⟨by omega,by omega,fun k hk=>by
   by_cases e:(k:Int)=i
   ·rw[show k=i.toNat by omega];exact hin
   ·exact i3 k (by omega)⟩ (by omega))
  refine jab (jb2 (by omega) (by omega)) ?_
  generalize H.getD i.toNat ((0,0),(false,0))=h at *
  refine jh2 (fun x=>x=jpw h) (fun x hx=>?_) fun j hj=>?_
  rotate_left
  ·cases e:h.2.1
   ·exact hj _ (by unfold jpw;rw[e];rfl)
   ·exact hj _ (by unfold jpw;rw[e];rfl)
  subst hx
  rw[show jdt (fu nn) (S,(h.1.1,h.1.2))=some (decide (h.1∈S)) from j2e (by omega) _,Option.bind_some]
  by_cases h1:h.1∈S
  rotate_left
  ·rw[decide_eq_false h1]
   exact b7 fun c=>h1 (c h hm).1
  rw[decide_eq_true h1]
  simp only[Bool.not_true,cond_false]
  have hb:=good.bd _ h1
  rw[show jdf (fu nn) ((h.1.1,h.1.2),jpw h)=some (ja8 h) from by rw[←j2t];exact jy0 (B:=64) (s:=h.1) (by unfold jfm;omega) (by omega),Option.bind_some,
   show jdt (fu nn) (S,((ja8 h).1,(ja8 h).2))=some (decide (ja8 h∈S)) from j2e (by omega) _,Option.bind_some]
  by_cases h2:ja8 h∈S
  ·rw[decide_eq_true h2]
   exact nxt ⟨h1,h2⟩
  ·rw[decide_eq_false h2]
   exact b7 fun c=>h2 (c h hm).2
 have hE:jvi S H:=jma hZ fun k hk=>i3 k (by omega)
 clear i1 i2 i3 hge' ih b7
 have s0:S.getD 0 (0,0)∈S:=jdu (by omega)
 refine jab (jb2 (by omega) (by omega)) ?_
 refine ja0 (Inv:=fun x:List SqT×Int=>0≤x.2∧x.2≤x.1.length∧RcI S H x.1∧∀m:Nat,(m:Int)<x.2→∀g∈H,(g.1=x.1.getD m (0,0)→ja8 g∈x.1)∧(ja8 g=x.1.getD m (0,0)→g.1∈x.1)) (m:=fun x=>((S.length:Int)-x.2).toNat) ?_ _ _ ⟨by simp,by simp,⟨by simp,fun s hs=>by rw[List.mem_singleton.1 hs];exact⟨s0,Rch.start⟩,by simp⟩,fun m hm=>by simp only at hm;omega⟩ (by simp only[fu];omega)
 rintro ⟨o,k⟩ rec ⟨i1,i2,i3,i6⟩ ih
 simp only at i1 i2 i3 i6 ⊢
 have hol:=i3.len
 refine jac (fun hlt=>?_) fun hge=>?_
 ·have hok:o.getD k.toNat (0,0)∈o:=jdu (by omega)
  refine ja0 (Inv:=fun x:List SqT×Int=>0≤x.2∧x.2≤H.length∧RcI S H x.1∧(∃more,x.1=o++more)∧∀m:Nat,(m:Int)<x.2→((H.getD m hZ).1=o.getD k.toNat (0,0)→ja8 (H.getD m hZ)∈x.1)∧(ja8 (H.getD m hZ)=o.getD k.toNat (0,0)→(H.getD m hZ).1∈x.1)) (m:=fun x=>((H.length:Int)-x.2).toNat) ?_ _ _ ⟨by simp,by simp,i3,⟨[],by simp⟩,fun m hm=>by simp only at hm;omega⟩ (by simp only[fu];omega)
  rintro ⟨p,i⟩ rec2 ⟨j1,j2,j3,⟨more,j5⟩,j6⟩ ih2
  simp only at j1 j2 j3 j5 j6 ⊢
  have hpl:=j3.len
  have gk:∀q:List SqT,(∃more',q=p++more')→q.getD k.toNat (0,0)=o.getD k.toNat (0,0)∧k.toNat<q.length:=fun q ⟨more',e⟩=>by
   rw[e,j5,List.append_assoc]
   refine⟨by rw[List.getD,List.getD,List.getElem?_append_left (by omega)],by rw[List.length_append];omega⟩
  refine jac (fun hlt2=>?_) fun hge2=>?_
  ·have hm:H.getD i.toNat ((0,0),(false,0))∈H:=jdv (H:=H) (i:=i.toNat) (by omega)
   have nxt:∀q:List SqT,RcI S H q→(∃more',q=p++more')→(((H.getD i.toNat ((0,0),(false,0))).1=o.getD k.toNat (0,0)→ja8 (H.getD i.toNat ((0,0),(false,0)))∈q)∧(ja8 (H.getD i.toNat ((0,0),(false,0)))=o.getD k.toNat (0,0)→(H.getD i.toNat ((0,0),(false,0))).1∈q))→Ret (chk (jap (i+1)) (rec2 (q,i+1))) (ChkR S H):=fun q q1 ⟨more',q3⟩ q4=>by
    refine jab (jaq (by omega) (by omega)) (ih2 _ ⟨by simp only;omega,by simp only;omega,q1,⟨more++more',by simp only;rw[q3,j5,List.append_assoc]⟩,fun m hm=>?_⟩ (by simp only;omega))
    simp only at hm ⊢
    by_cases e:(m:Int)=i
    ·rw[show m=i.toNat by omega];exact q4
    ·have:=j6 m (by omega)
     exact⟨fun c=>by rw[q3];exact List.mem_append_left _ (this.1 c),fun c=>by rw[q3];exact List.mem_append_left _ (this.2 c)⟩
   refine jab (jb2 (by omega) (by omega)) ?_
   generalize H.getD i.toNat ((0,0),(false,0))=h at *
   obtain⟨e1,e2⟩:=hE h hm
   have hb:=good.bd _ e1
   refine jh2 (fun x=>x=jpw h) (fun x hx=>?_) fun j hj=>?_
   rotate_left
   ·cases e:h.2.1
    ·exact hj _ (by unfold jpw;rw[e];rfl)
    ·exact hj _ (by unfold jpw;rw[e];rfl)
   subst hx
   rw[show jdf (fu nn) ((h.1.1,h.1.2),jpw h)=some (ja8 h) from by rw[←j2t];exact jy0 (B:=64) (s:=h.1) (by unfold jfm;omega) (by omega),Option.bind_some]
   have rr:Rch S H h.1↔Rch S H (ja8 h):=Rch.step hm
   have ok:Rch S H (o.getD k.toNat (0,0)):=(i3.mem _ hok).2
   have g0:=gk p ⟨[],by simp⟩
   refine jh2 (fun x=>(x=true∧h.1=o.getD k.toNat (0,0)∧ja8 h∉p)∨(x=false∧(h.1=o.getD k.toNat (0,0)→ja8 h∈p))) (fun x hx=>?_) fun j hj=>?_
   rotate_left
   ·refine jab (jb2 (by omega) (by have:=g0.2;omega)) ?_
    rw[g0.1,show(decide (h.1.1=(o.getD k.toNat (0,0)).1)&&decide (h.1.2=(o.getD k.toNat (0,0)).2))=decide (h.1=o.getD k.toNat (0,0)) from j8h _ _]
    refine jac (fun c=>?_) fun c=>hj _ (.inr ⟨rfl,fun d=>absurd d c⟩)
    rw[show jdt (fu nn) (p,((ja8 h).1,(ja8 h).2))=some (decide (ja8 h∈p)) from j2e (by omega) _,Option.bind_some]
    by_cases hm2:ja8 h∈p
    ·rw[decide_eq_true hm2];exact hj _ (.inr ⟨rfl,fun _=>hm2⟩)
    ·rw[decide_eq_false hm2];exact hj _ (.inl ⟨rfl,c,hm2⟩)
   refine jh2 (fun q:List SqT=>RcI S H q∧(∃more',q=p++more')∧(h.1=o.getD k.toNat (0,0)→ja8 h∈q)) (fun q hq=>?_) fun j hj=>?_
   rotate_left
   ·rcases hx with⟨rfl,c1,c2⟩ | ⟨rfl,c⟩
    ·exact jab (js7 (by omega)) (hj _ ⟨j3.add e2 (rr.1 (by rw[c1];exact ok)) c2,⟨_,rfl⟩,fun _=>by simp⟩)
    ·exact hj _ ⟨j3,⟨[],by simp⟩,c⟩
   obtain⟨q1,q2,q3⟩:=hq
   have g1:=gk q q2
   have hql:=q1.len
   refine jab (jb2 (by omega) (by have:=g1.2;omega)) ?_
   rw[g1.1,show(decide ((ja8 h).1=(o.getD k.toNat (0,0)).1)&&decide ((ja8 h).2=(o.getD k.toNat (0,0)).2))=decide (ja8 h=o.getD k.toNat (0,0)) from j8h _ _]
   refine jac (fun c=>?_) fun c=>nxt q q1 q2 ⟨q3,fun d=>absurd d c⟩
   rw[show jdt (fu nn) (q,(h.1.1,h.1.2))=some (decide (h.1∈q)) from j2e (by omega) _,Option.bind_some]
   by_cases hm2:h.1∈q
   ·rw[decide_eq_true hm2]
    exact nxt q q1 q2 ⟨q3,fun _=>hm2⟩
   ·rw[decide_eq_false hm2]
    obtain⟨more',q2⟩:=q2
    exact jab (js7 (by omega)) (nxt _ (q1.add e1 (rr.2 (by rw[c];exact ok)) hm2) ⟨more'++[(h.1.1,h.1.2)],by rw[q2,List.append_assoc]⟩ ⟨fun d=>List.mem_append_left _ (q3 d),fun _=>by simp⟩)
  ·refine jab (jaq (by omega) (by omega)) (ih _ ⟨by simp only;omega,by have:=(gk p ⟨[],by simp⟩).2;simp only;omega,j3,fun m hm g hg=>?_⟩ (by simp only;omega))
   simp only at hm ⊢
   by_cases e:(m:Int)=k
   ·obtain⟨q,hq,rfl⟩:=List.mem_iff_getElem.1 hg
    have:=j6 q (by omega)
    rw[List.getD,List.getElem?_eq_getElem hq,Option.getD_some] at this
    rw[show m=k.toNat by omega,(gk p ⟨[],by simp⟩).1]
    exact this
   ·have:=i6 m (by omega) g hg
    have gm:p.getD m (0,0)=o.getD m (0,0):=by rw[j5,List.getD,List.getD,List.getElem?_append_left (by omega)]
    rw[gm]
    exact⟨fun c=>by rw[j5];exact List.mem_append_left _ (this.1 c),fun c=>by rw[j5];exact List.mem_append_left _ (this.2 c)⟩
 ·have cl:∀g∈H,(g.1∈o↔ja8 g∈o):=fun g hg=>by
   have at_:∀y∈o,∃m:Nat,(m:Int)<k∧o.getD m (0,0)=y:=fun y hy=>by
    obtain⟨m,hm,e⟩:=List.mem_iff_getElem.1 hy
    exact⟨m,by omega,by rw[List.getD,List.getElem?_eq_getElem hm];exact e⟩
   constructor
   ·intro c
    obtain⟨m,hm,e⟩:=at_ _ c
    exact(i6 m hm g hg).1 e.symm
   ·intro c
    obtain⟨m,hm,e⟩:=at_ _ c
    exact(i6 m hm g hg).2 e.symm
  refine jac (fun g=>jak (.inr ⟨by omega,.inr ⟨good,.inr ⟨hE,.inl ⟨fun hc=>?_,rfl⟩⟩⟩⟩)) fun g=>jak (.inr ⟨by omega,.inr ⟨good,.inr ⟨hE,.inr ⟨jq6 fun s hs=>?_,rfl⟩⟩⟩⟩)
  ·have all:=hc (fun s=>s∈o) ⟨_,s0,i3.first⟩ cl
   have:=jj9 (l:=S) (p:=o) good.srt.nodup all
   omega
  ·have hin:s∈o:=Classical.byContradiction fun c=>by
    have:=jj9 (l:=s::o) (p:=S) (List.nodup_cons.2 ⟨c,i3.nd⟩) fun x hx=>by
     rcases List.mem_cons.1 hx with rfl | hx
     ·exact hs
     ·exact(i3.mem x hx).1
    rw[List.length_cons] at this
    omega
   exact(i3.mem s hin).2
theorem j35 {S:List SqT} {H:List HgT} (hS:S.length≤70) (hH:H.length≤1000):∃r,ChkR S H r∧jba (fu nn) (S,H)=some r∧jdl (fu nn) (S,H)=some r:=by
 obtain⟨r,e,h⟩:=j4m (nn:=nn) hS hH
 obtain⟨r',e',h'⟩:=jyr (nn:=nn) hS hH
 exact⟨r,h,e,by rw[e',h.uniq h']⟩
end X
end Go.Vm
namespace Go.Vm
namespace X
open W
variable {nn:Nat}
def j4p (a:List Int):Prop:=∀j:Nat,j<3→ -64≤a.getD j 0∧a.getD j 0≤64
theorem jr8 (a:List Int):Ret (jea (fu nn) a) fun b=>(b=false∧j4p a)∨(b=true∧¬j4p a):=by
 unfold jea
 refine jab (by decide) ?_
 refine ja0 (Inv:=fun i:Int=>0≤i∧i≤3∧∀j:Nat,(j:Int)<i→ -64≤a.getD j 0∧a.getD j 0≤64) (m:=fun i=>(3-i).toNat) ?_ _ _ ⟨by simp,by simp,fun j hj=>by omega⟩ (by simp only[fu];omega)
 rintro i rec ⟨i1,i2,i3⟩ ih
 refine jac (fun hlt=>?_) fun hge=>jak (.inl ⟨rfl,fun j hj=>i3 j (by omega)⟩)
 refine jab (jb2 (by omega) (by omega)) ?_
 rw[show 0+i.toNat=i.toNat by omega]
 by_cases h: -64≤a.getD i.toNat 0∧a.getD i.toNat 0≤64
 ·have e:jch (fu nn) (a.getD i.toNat 0)=some false:=by
   unfold jch
   rw[decide_eq_false (by omega),cond_false,decide_eq_false (by omega)]
  rw[e,Option.bind_some]
  refine jab (jaq (by omega) (by omega)) (ih _ ⟨by omega,by omega,fun j hj=>?_⟩ (by omega))
  by_cases e:(j:Int)=i
  ·rw[show j=i.toNat by omega];exact h
  ·exact i3 j (by omega)
 ·have e:jch (fu nn) (a.getD i.toNat 0)=some true:=by
   unfold jch
   by_cases c:a.getD i.toNat 0 < -64
   ·rw[decide_eq_true c,cond_true]
   ·rw[decide_eq_false c,cond_false,decide_eq_true (by omega)]
  rw[e,Option.bind_some]
  refine jak (.inr ⟨decide_eq_true i1,fun c=>h (c _ (by omega))⟩)
theorem js2 {x y:Int} (hx: -64≤x∧x≤64) (hy: -64≤y∧y≤64): -4096≤x*y∧x*y≤4096:=by
 have h:=Int.natAbs_mul x y
 have h2:x.natAbs*y.natAbs≤64*64:=Nat.mul_le_mul (by omega) (by omega)
 omega
theorem j63 {a b:List Int} (ha:j4p a) (hb:j4p b):jeb (fu nn) (a,b)=some (j1d a b):=by
 unfold jeb
 have m0:=js2 (ha 0 (by omega)) (hb 0 (by omega))
 have m1:=js2 (ha 1 (by omega)) (hb 1 (by omega))
 have m2:=js2 (ha 2 (by omega)) (hb 2 (by omega))
 simp only
 rw[jgv (jaq (by omega) (by omega)),jgv (jaq (by omega) (by omega)),jgv (jaq (by omega) (by omega)),jgv (jaq (by omega) (by omega)),jgv (jaq (by omega) (by omega))]
 rfl
structure VF (f:FrT):Prop where
 a:j4p f.1
 r:j4p f.2.1
 u:j4p f.2.2
 rr:j1d f.2.1 f.2.1=1
 uu:j1d f.2.2 f.2.2=1
 ru:j1d f.2.1 f.2.2=0
theorem keb {x y z:Int} (h:x*x+y*y+z*z=1):x∈jn3∧y∈jn3∧z∈jn3:=by
 have sq:∀w:Int,0≤w*w:=fun w=>by
  rcases Int.le_total 0 w with c | c
  ·exact Int.mul_nonneg c c
  ·exact Int.mul_nonneg_of_nonpos_of_nonpos c c
 have hx:=sq x;have hy:=sq y;have hz:=sq z
 have key:∀w:Int,w*w≤1→w∈jn3:=fun w hw=>jev (by
  have h2:=Int.natAbs_mul w w
  have:w.natAbs≤1:=Classical.byContradiction fun c=>by
   have:2*2≤w.natAbs*w.natAbs:=Nat.mul_le_mul (by omega) (by omega)
   have:=sq w
   omega
  omega)
 exact⟨key x (by omega),key y (by omega),key z (by omega)⟩
theorem kht:∀x∈jn3,∀y∈jn3,∀z∈jn3,∀x'∈jn3,∀y'∈jn3,∀z'∈jn3,j1d [x,y,z] [x,y,z]=1→j1d [x',y',z'] [x',y',z']=1→j1d [x,y,z] [x',y',z']=0→(([x,y,z],[x',y',z']):List Int×List Int)∈RU:=by decide +kernel
theorem kjs {r u:List Int} (lr:r.length=3) (lu:u.length=3) (h1:j1d r r=1) (h2:j1d u u=1) (h3:j1d r u=0):(r,u)∈RU:=by
 match r,u,lr,lu with
 | [x,y,z],[x',y',z'],_,_=>
   obtain⟨a,b,c⟩:=keb (x:=x) (y:=y) (z:=z) h1
   obtain⟨a',b',c'⟩:=keb (x:=x') (y:=y') (z:=z') h2
   exact kht x a y b z c x' a' y' b' z' c' h1 h2 h3
theorem VF.ok {f:FrT} (h:VF f) (l0:f.1.length=3) (l1:f.2.1.length=3) (l2:f.2.2.length=3):FrOK 64 f:=
 ⟨l0,fun k hk=>(h.a k hk).1,fun k hk=>(h.a k hk).2,kjs l1 l2 h.rr h.uu h.ru⟩
theorem jug {f:FrT} (l0:f.1.length=3) (l1:f.2.1.length=3) (l2:f.2.2.length=3):Ret (jcp (fu nn) f) fun b=>(b=true∧VF f)∨(b=false∧¬VF f):=by
 unfold jcp
 rw[jko l0,jko l1,jko l2]
 have no:¬VF f→Ret (some false) fun b=>(b=true∧VF f)∨(b=false∧¬VF f):=fun h=>jak (.inr ⟨rfl,h⟩)
 refine jfv (jr8 _) fun b hb=>?_
 rcases hb with⟨rfl,h1⟩ | ⟨rfl,h1⟩
 rotate_left
 ·exact no fun c=>h1 c.a
 refine jfv (jr8 _) fun b hb=>?_
 rcases hb with⟨rfl,h2⟩ | ⟨rfl,h2⟩
 rotate_left
 ·exact no fun c=>h2 c.r
 refine jfv (jr8 _) fun b hb=>?_
 rcases hb with⟨rfl,h3⟩ | ⟨rfl,h3⟩
 rotate_left
 ·exact no fun c=>h3 c.u
 simp only[cond_false]
 rw[j63 h2 h2,Option.bind_some]
 refine jac (fun d1=>?_) fun d1=>no fun c=>d1 c.rr
 rw[j63 h3 h3,Option.bind_some]
 refine jac (fun d2=>?_) fun d2=>no fun c=>d2 c.uu
 rw[j63 h2 h3,Option.bind_some]
 by_cases d3:j1d f.2.1 f.2.2=0
 ·exact jak (.inl ⟨decide_eq_true d3,⟨h1,h2,h3,d1,d2,d3⟩⟩)
 ·exact jak (.inr ⟨decide_eq_false d3,fun c=>d3 c.ru⟩)
theorem khg (f:FrT) (l0:f.1.length=3) (l1:f.2.1.length=3) (l2:f.2.2.length=3):(([f.1.getD 0 0,f.1.getD 1 0,f.1.getD 2 0],([f.2.1.getD 0 0,f.2.1.getD 1 0,f.2.1.getD 2 0],[f.2.2.getD 0 0,f.2.2.getD 1 0,f.2.2.getD 2 0])):FrT)=f:=by
 rw[jko l0,jko l1,jko l2]
theorem j4l {f:FrT} (l0:f.1.length=3) (l1:f.2.1.length=3) (l2:f.2.2.length=3):Ret (jjo (fu nn) f) fun v=>(VF f∧v=jhm f.2.1 f.2.2)∨(¬VF f∧v=[0,0,0]):=by
 unfold jjo
 rw[khg f l0 l1 l2]
 refine jfv (jug l0 l1 l2) fun b hb=>?_
 rcases hb with⟨rfl,h⟩ | ⟨rfl,h⟩
 ·simp only[Bool.not_true,cond_false]
  rw[show jat (fu nn) f=some (jhm f.2.1 f.2.2) from jpe (h.ok l0 l1 l2).ru _,Option.bind_some]
  exact jak (.inl ⟨h,rfl⟩)
 ·exact jak (.inr ⟨h,rfl⟩)
abbrev frN:FrT:=([0,0,0],([0,0,0],[0,0,0]))
abbrev nxH (jkz bend:Int):HgT:=((0,0),(decide (jkz%2=1),bend))
theorem j72 {f:FrT} {jkz bend:Int} (l0:f.1.length=3) (l1:f.2.1.length=3) (l2:f.2.2.length=3) (hs:0≤jkz) (hb: -1≤bend):
  Ret (jlp (fu nn) (f,(jkz,bend))) fun g=>(VF f∧jkz≤3∧bend≤1∧g=if 1<jkz then bkF f (nxH jkz bend) else ovF f (nxH jkz bend))∨(¬(VF f∧jkz≤3∧bend≤1)∧g=frN):=by
 unfold jlp
 simp only
 rw[khg f l0 l1 l2]
 have no:¬(VF f∧jkz≤3∧bend≤1)→Ret (some frN) fun g=>(VF f∧jkz≤3∧bend≤1∧g=if 1<jkz then bkF f (nxH jkz bend) else ovF f (nxH jkz bend))∨(¬(VF f∧jkz≤3∧bend≤1)∧g=frN):=fun h=>jak (.inr ⟨h,rfl⟩)
 refine jfv (jug l0 l1 l2) fun b hb'=>?_
 rcases hb' with⟨rfl,h⟩ | ⟨rfl,h⟩
 rotate_left
 ·exact no fun c=>h c.1
 simp only[Bool.not_true,cond_false]
 refine jac (fun g=>no fun c=>by omega) fun g1=>jac (fun g=>by omega) fun g2=>jac (fun g=>no fun c=>by omega) fun g3=>jab (by simp only[Bool.and_eq_true,decide_eq_true_eq];omega) ?_
 have hf:=h.ok l0 l1 l2
 have hbd: -1≤(nxH jkz bend).2.2∧(nxH jkz bend).2.2≤1:=⟨by simp only;omega,by simp only;omega⟩
 refine jac (fun g4=>?_) fun g4=>?_
 ·rw[show jbk (fu nn) (f,(0,0),decide (jkz%2=1),bend)=some (bkF f (nxH jkz bend)) from j7d hf (by omega) hbd,Option.bind_some,j9e (hf.bk hbd)]
  exact jak (.inl ⟨h,by omega,by omega,by rw[if_pos g4]⟩)
 ·rw[show jbj (fu nn) (f,(0,0),decide (jkz%2=1),bend)=some (ovF f (nxH jkz bend)) from jz0 hf (by omega) hbd,Option.bind_some,j9e (hf.ov hbd)]
  exact jak (.inl ⟨h,by omega,by omega,by rw[if_neg g4]⟩)
def j0p (x y:List Int):Nat→Int
 | 0=>0
 | k+1=>j0p x y k+x.getD k 0*y.getD k 0
theorem kjd (x y:List Int):j0p x y 3=j1d x y:=by
 unfold j0p j0p j0p j0p j1d
 omega
theorem jwo {x y:List Int} (hx:j4p x) (hy:j4p y):∀k:Nat,k≤3→ -4096* (k:Int)≤j0p x y k∧j0p x y k≤4096* (k:Int)
 | 0,_=>by unfold j0p;omega
 | k+1,h=>by
   have ih:=jwo hx hy k (by omega)
   have:=js2 (hx k (by omega)) (hy k (by omega))
   unfold j0p
   omega
end X
end Go.Vm
namespace Go.Vm
namespace X
open W
variable {nn:Nat}
structure Ans (nn:Nat) (S:List SqT) (H:List HgT) (t:Int) where
 r:Int
 r4:List FrT×Int
 r5:List (List Int×Int)×Int
 r6:(List SqT×List HgT)×Int
 r7:(List SqT×List HgT)×Int
 e3:jdl (fu nn) (S,H)=some r
 ec:jba (fu nn) (S,H)=some r
 e4:jbu (fu nn) (S,H)=some r4
 e5:jcg (fu nn) (S,H)=some r5
 e6:jcz (fu nn) ((S,H),t)=some r6
 e7:jhu (fu nn) (S,H)=some r7
 tx:∃s,jjl (fu nn) (S,H)=some s∧(s=[]↔r≠0)
 fin:(r≠0∧r4=([],r)∧r5=([],r)∧r6=(([],[]),r)∧r7=(([],[]),r))∨(r=0∧r7.2=0∧((7<t∧r6=(([],[]),1))∨(¬7<t∧r6.2=0))∧((r4.2=0∧r5.2=0)∨(r4.2=0∧r5.2=12)∨(r4.2=11∧r5.2=11)))
theorem ans {S:List SqT} {H:List HgT} {t:Int} (ht:0≤t) (hS:S.length≤70) (hH:H.length≤20):Nonempty (Ans nn S H t):=by
 obtain⟨r,hr,ec,e3⟩:=j35 (nn:=nn) hS (show H.length≤1000 by omega)
 by_cases h0:r=0
 rotate_left
 ·have e4:jbu (fu nn) (S,H)=some ([],r):=by
   apply Ret.eq
   unfold jbu
   rw[show jba (fu nn) ((S,H).1,(S,H).2)=some r from ec,Option.bind_some]
   exact jac (fun _=>jak rfl) fun c=>absurd h0 c
  refine⟨⟨r,([],r),([],r),(([],[]),r),(([],[]),r),e3,ec,e4,?_,?_,?_,⟨[],?_,by simp[h0]⟩,.inl ⟨h0,rfl,rfl,rfl,rfl⟩⟩⟩
  ·apply Ret.eq
   unfold jcg
   rw[show jbu (fu nn) ((S,H).1,(S,H).2)=some ([],r) from e4,Option.bind_some]
   exact jac (fun _=>jak rfl) fun c=>absurd h0 c
  ·apply Ret.eq
   unfold jcz
   rw[show jba (fu nn) ((((S,H),t):(List SqT×List HgT)×Int).1.1,(((S,H),t):(List SqT×List HgT)×Int).1.2)=some r from ec,Option.bind_some]
   exact jac (fun _=>jak rfl) fun c=>absurd h0 c
  ·apply Ret.eq
   unfold jhu
   rw[show jba (fu nn) ((S,H).1,(S,H).2)=some r from ec,Option.bind_some]
   exact jac (fun _=>jak rfl) fun c=>absurd h0 c
  ·unfold jjl j3f
   rw[ec,Option.bind_some,decide_eq_false h0,cond_false]
 subst h0
 have hn:=hr.net
 have hle:=hn.le
 have hge:=hn.ge
 have sm:SmN 100 S H:=by
  have s64:∀s∈S,jfm 100 s:=fun s hs=>by have:=hn.bd s hs;unfold jfm;omega
  exact⟨s64,fun g hg=>⟨s64 _ (hn.ends g hg).1,s64 _ (hn.ends g hg).2,hn.bend g hg⟩,hle,by omega,fun c=>by rw[c] at hge;simp at hge⟩
 have okm:∀t:Int,0≤t∧t≤7→okH (H.map (mvH t (loS t S)))=true:=fun t ht=>(kj0 (kab (c:=loS t S) ht (khv hn.hs))).1
 have bd4:∀g∈hgT 4 S H, -1≤g.2.2∧g.2.2≤1:=fun g hg=>by
  obtain⟨k,hk,rfl⟩:=List.mem_map.1 (((kj0 (kab (c:=loS 4 S) (t:=4) (by decide) (khv hn.hs))).2.2 g).1 hg)
  unfold mvH
  rw[j9t]
  exact hn.bend k hk
 have e7:=kdj (nn:=nn) hn sm (okm 4 (by decide)) bd4
 have e6:∃r6,jcz (fu nn) ((S,H),t)=some r6∧((7<t∧r6=(([],[]),1))∨(¬7<t∧r6.2=0)):=by
  by_cases h7:7<t
  ·refine⟨(([],[]),1),?_,.inl ⟨h7,rfl⟩⟩
   apply Ret.eq
   unfold jcz
   rw[show jba (fu nn) ((((S,H),t):(List SqT×List HgT)×Int).1.1,(((S,H),t):(List SqT×List HgT)×Int).1.2)=some 0 from ec,Option.bind_some]
   exact jac (fun c=>absurd rfl c) fun _=>jac (fun _=>jak rfl) fun c=>absurd h7 c
  ·exact⟨_,j7p hn sm ⟨ht,by omega⟩ (okm t ⟨ht,by omega⟩),.inr ⟨h7,rfl⟩⟩
 obtain⟨r6,e6,f6⟩:=e6
 obtain⟨r4,e4,K,O,hp,hall,p1,p2⟩:=j9y (nn:=nn) hn (by omega)
 have e5:∃r5,jcg (fu nn) (S,H)=some r5∧((r4.2=0∧r5.2=0)∨(r4.2=0∧r5.2=12)∨(r4.2=11∧r5.2=11)):=by
  by_cases ho:∀g∈H,ovF (O.getD (idxS S g.1).toNat frZ) g=O.getD (idxS S (ja8 g)).toNat frZ
  ·have e:=p1 ho
   subst e
   have hol:=hp.ol
   have hkl:=hp.kl
   have hsp:=j9w (nn:=nn) e4 (fun i hi=>(hp.ok i (by omega) (hall i (by omega))).sm (by have:=jph (K:=K);omega)) (by omega)
   refine⟨_,hsp,?_⟩
   unfold j1k
   split
   ·exact .inl ⟨rfl,rfl⟩
   ·exact .inr (.inl ⟨rfl,rfl⟩)
  ·have e:=p2 ho
   subst e
   refine⟨([],11),?_,.inr (.inr ⟨rfl,rfl⟩)⟩
   apply Ret.eq
   unfold jcg
   rw[show jbu (fu nn) ((S,H).1,(S,H).2)=some ([],11) from e4,Option.bind_some]
   exact jac (fun _=>jak rfl) fun c=>absurd (by decide) c
 obtain⟨r5,e5,f5⟩:=e5
 refine⟨⟨0,r4,r5,r6,_,e3,ec,e4,e5,e6,e7,⟨_,kde hn (by omega),?_⟩,.inr ⟨rfl,rfl,f6,f5⟩⟩⟩
 refine⟨fun c=>?_,fun c=>absurd rfl c⟩
 unfold txN at c
 rw[List.map_eq_nil_iff] at c
 match S,hge with
 | s::S,_=>
   have:=kg9 (itB (jcd (fu nn))) s
   unfold tlT at c
   rw[List.flatMap_cons,List.append_assoc] at c
   rw[(List.append_eq_nil_iff.1 c).1] at this
   cases this
def WF3 (f:FrT) (j:Nat):Prop:=(-64≤f.1.getD j 0∧f.1.getD j 0≤64)∧(-64≤f.2.1.getD j 0∧f.2.1.getD j 0≤64)∧(-64≤f.2.2.getD j 0∧f.2.2.getD j 0≤64)
theorem i8w {q:Int} (h:0≤q∧q≤3):IntKind.i8.wrap ((IntKind.i8.wrap q)-1)=q-1:=by
 rcases(by omega:q=0∨q=1∨q=2∨q=3) with rfl | rfl | rfl | rfl<;>decide
theorem j9x {β:Type} {x y:Option β} {Q:β→Prop} (h:Ret x Q):Ret (bif true then x else y) Q:=h
set_option maxHeartbeats 2000000 in
theorem jlt {S:List SqT} {H:List HgT} {t:Int} {f:FrT} (ht:0≤t∧t≤255) (l0:f.1.length=3) (l1:f.2.1.length=3) (l2:f.2.2.length=3) (hl:ja7 (fu nn) ()=some true):jey (fu nn) ((S,H),(t,f))=some true:=by
 apply Ret.eq
 have LV:Ret ((ja7 (fu nn) ()).bind fun r=>some r) fun x=>x=true:=by rw[hl];exact jak rfl
 unfold jey
 simp only
 refine jh2 (fun x=>x=true∨(x=false∧S.length≤70∧H.length≤20)) (fun x hx=>?_) fun j hj=>?_
 rotate_left
 ·refine jac (fun _=>hj _ (.inl rfl)) fun g1=>?_
  by_cases g2:(20:Int)<H.length
  ·rw[decide_eq_true g2];exact hj _ (.inl rfl)
  ·rw[decide_eq_false g2];exact hj _ (.inr ⟨rfl,by omega,by omega⟩)
 rcases hx with rfl | ⟨rfl,hS,hH⟩
 ·exact j9x LV
 rw[cond_false]
 obtain⟨A⟩:=ans (nn:=nn) (t:=t) ht.1 hS hH
 obtain⟨r,r4,r5,r6,r7,e3,ec,e4,e5,e6,e7,⟨s,es,hs⟩,fin⟩:=A
 rw[e3,Option.bind_some,e4,Option.bind_some,e5,Option.bind_some,e6,Option.bind_some,e7,Option.bind_some]
 rw[jko l0,jko l1,jko l2]
 refine jh2 (fun x=>x=false) (fun x hx=>?_) fun j hj=>?_
 rotate_left
 ·rw[ec,Option.bind_some]
  refine jac (fun c=>absurd rfl c) fun _=>?_
  rw[es,Option.bind_some]
  have e:(decide (s=[])==decide (r≠0))=true:=kjp hs
  rw[e]
  exact hj _ (by decide)
 subst hx
 simp only[cond_false]
 refine ja0 (Inv:=fun x:Bool×Int=>0≤x.2∧x.2≤3∧((x.1=false∧∀j:Nat,(j:Int)<x.2→WF3 f j)∨(x.1=true∧¬ ∀j:Nat,j<3→WF3 f j))) (m:=fun x=>(3-x.2).toNat) ?_ _ _ ⟨by simp,by simp,.inl ⟨rfl,fun j hj=>by simp only at hj;omega⟩⟩ (by simp only[fu];omega)
 rintro ⟨far,k⟩ rec ⟨i1,i2,i3⟩ ih
 simp only at i1 i2 i3 ⊢
 refine jac (fun hlt=>?_) fun hge=>?_
 ·have nt:(¬ ∀j:Nat,j<3→WF3 f j)→Ret (chk (jap (k+1)) (rec (true,k+1))) fun x=>x=true:=fun h=>jab (jaq (by omega) (by omega)) (ih _ ⟨by simp only;omega,by simp only;omega,.inr ⟨rfl,h⟩⟩ (by simp only;omega))
  have hin:=jb2 (i:=k) (n:=3) i1 (by omega)
  rcases i3 with⟨rfl,i3⟩ | ⟨rfl,i3⟩
  rotate_left
  ·exact nt i3
  simp only[cond_false]
  have no:¬WF3 f k.toNat→Ret (chk (jap (k+1)) (rec (true,k+1))) fun x=>x=true:=fun h=>nt fun c=>h (c _ (by omega))
  refine jab hin (jac (fun g=>no fun c=>by unfold WF3 at c;omega) fun g1=>jab hin (jac (fun g=>no fun c=>by unfold WF3 at c;omega) fun g2=>jab hin (jac (fun g=>no fun c=>by unfold WF3 at c;omega) fun g3=>jab hin (jac (fun g=>no fun c=>by unfold WF3 at c;omega) fun g4=>jab hin (jac (fun g=>no fun c=>by unfold WF3 at c;omega) fun g5=>jab hin ?_)))))
  by_cases g6:f.2.2.getD k.toNat 0 < -64
  ·rw[decide_eq_true g6]
   exact no fun c=>by unfold WF3 at c;omega
  ·rw[decide_eq_false g6]
   refine jab (jaq (by omega) (by omega)) (ih _ ⟨by simp only;omega,by simp only;omega,.inl ⟨rfl,fun j hj=>?_⟩⟩ (by simp only;omega))
   simp only at hj
   by_cases e:(j:Int)=k
   ·rw[show j=k.toNat by omega];unfold WF3;omega
   ·exact i3 j (by omega)
 clear ih
 have hVF:VF f→∀j:Nat,j<3→WF3 f j:=fun h j hj=>⟨h.a j hj,h.r j hj,h.u j hj⟩
 refine jh2 (fun x=>(x=false∧VF f)∨(x=true∧¬VF f)) (fun x12 hx=>?_) fun j12 hj12=>?_
 rotate_left
 ·rcases i3 with⟨rfl,i3⟩ | ⟨rfl,i3⟩
  rotate_left
  ·exact hj12 _ (.inr ⟨rfl,fun c=>i3 (hVF c)⟩)
  simp only[Bool.not_false,cond_true]
  have fa:j4p f.1:=fun j hj=>(i3 j (by omega)).1
  have fr:j4p f.2.1:=fun j hj=>(i3 j (by omega)).2.1
  have fq:j4p f.2.2:=fun j hj=>(i3 j (by omega)).2.2
  refine ja0 (Inv:=fun x:Int×(Int×(Int×Int))=>0≤x.2.2.2∧x.2.2.2≤3∧x.1=j0p f.2.1 f.2.1 x.2.2.2.toNat∧x.2.1=j0p f.2.2 f.2.2 x.2.2.2.toNat∧x.2.2.1=j0p f.2.1 f.2.2 x.2.2.2.toNat) (m:=fun x=>(3-x.2.2.2).toNat) ?_ _ _ ⟨by simp,by simp,rfl,rfl,rfl⟩ (by simp only[fu];omega)
  rintro ⟨a,b,c,q⟩ rec2 ⟨q1,q2,q3,q4,q5⟩ ih2
  simp only at q1 q2 q3 q4 q5 ⊢
  refine jac (fun hlt=>?_) fun hge2=>?_
  ·have hin:=jb2 (i:=q) (n:=3) q1 (by omega)
   have b1:=jwo fr fr q.toNat (by omega)
   have b2:=jwo fq fq q.toNat (by omega)
   have b3:=jwo fr fq q.toNat (by omega)
   have m1:=js2 (fr q.toNat (by omega)) (fr q.toNat (by omega))
   have m2:=js2 (fq q.toNat (by omega)) (fq q.toNat (by omega))
   have m3:=js2 (fr q.toNat (by omega)) (fq q.toNat (by omega))
   have st:∀x y:List Int,j0p x y (q+1).toNat=j0p x y q.toNat+x.getD q.toNat 0*y.getD q.toNat 0:=fun x y=>by
    rw[show(q+1).toNat=q.toNat+1 by omega];rfl
   refine jab hin (jab hin (jab (jaq (by omega) (by omega)) (jab (jaq (by omega) (by omega)) (jab hin (jab hin (jab (jaq (by omega) (by omega)) (jab (jaq (by omega) (by omega)) (jab hin (jab hin (jab (jaq (by omega) (by omega)) (jab (jaq (by omega) (by omega)) (jab (jaq (by omega) (by omega)) (ih2 _ ⟨by simp only;omega,by simp only;omega,?_,?_,?_⟩ (by simp only;omega))))))))))))))
   ·simp only;rw[st,q3]
   ·simp only;rw[st,q4]
   ·simp only;rw[st,q5]
  have e3:q.toNat=3:=by omega
  rw[e3,kjd] at q3 q4 q5
  refine jh2 (fun x=>(x=false∧VF f)∨(x=true∧¬VF f)) (fun x hx=>hj12 x hx) fun j hj=>?_
  refine jac (fun g=>hj _ (.inr ⟨rfl,fun v=>g (by rw[q3];exact v.rr)⟩)) fun g1=>jac (fun g=>hj _ (.inr ⟨rfl,fun v=>g (by rw[q4];exact v.uu)⟩)) fun g2=>?_
  by_cases g3:c=0
  ·rw[decide_eq_false (by simpa using g3)]
   exact hj _ (.inl ⟨rfl,⟨fa,fr,fq,by rw[←q3];exact Classical.not_not.1 g1,by rw[←q4];exact Classical.not_not.1 g2,by rw[←q5];exact g3⟩⟩)
  ·rw[decide_eq_true (by simpa using g3)]
   exact hj _ (.inr ⟨rfl,fun v=>g3 (by rw[q5];exact v.ru)⟩)
 clear i1 i2 i3 hge
 refine jh2 (fun x:Int×(Int×Int)=>(VF f∧x=((jhm f.2.1 f.2.2).getD 0 0,((jhm f.2.1 f.2.2).getD 1 0,(jhm f.2.1 f.2.2).getD 2 0)))∨(¬VF f∧x=(0,(0,0)))) (fun x15 hx15=>?_) fun j15 hj15=>?_
 rotate_left
 ·rcases hx with⟨rfl,v⟩ | ⟨rfl,v⟩
  ·simp only[Bool.not_false,cond_true]
   rw[show jcc (fu nn) (f.2.1,f.2.2)=some (jhm f.2.1 f.2.2) from juo (v.ok l0 l1 l2).ru,Option.bind_some]
   exact hj15 _ (.inl ⟨v,rfl⟩)
  ·exact hj15 _ (.inr ⟨v,rfl⟩)
 refine jfv (j4l (f:=f) l0 l1 l2) fun r17 h17=>?_
 have eqf:(decide (r17.getD 0 0=x15.1)&&(decide (r17.getD 1 0=x15.2.1)&&decide (r17.getD 2 0=x15.2.2)))=true:=by
  rcases hx15 with⟨v,rfl⟩ | ⟨v,rfl⟩<;>rcases h17 with⟨v',rfl⟩ | ⟨v',rfl⟩
  ·simp
  ·exact absurd v v'
  ·exact absurd v' v
  ·rfl
 rw[eqf]
 simp only[Bool.not_true,cond_false]
 refine jab (by simp only[Bool.and_eq_true,decide_eq_true_eq];omega) (jab (by
  simp only[Bool.and_eq_true,decide_eq_true_eq]
  refine⟨⟨by omega,by decide⟩,?_⟩
  simp[IntKind.wrap,IntKind.bits,IntKind.signed]
  omega) (jab (by simp only[Bool.and_eq_true,decide_eq_true_eq];omega) ?_))
 rw[i8w (by omega)]
 have hside:0≤t%5:=by omega
 have hbend: -1≤t / 5%4-1∧t / 5%4-1≤2:=by omega
 generalize t%5=jkz at *
 generalize t / 5%4-1=bend at *
 refine jfv (j72 (f:=f) l0 l1 l2 hside hbend.1) fun r18 h18=>?_
 have END:Ret (bif(decide (r≠0)) then(bif(decide (r4.2=r)) then(bif(decide (r5.2=r)) then(bif(decide (r6.2=r)) then(bif(decide (r7.2=r)) then(chk (jap (((r4.1.length:Nat):Int)+ ((r5.1.length:Nat):Int))) (chk (jap ((((r4.1.length:Nat):Int)+ ((r5.1.length:Nat):Int))+ ((r6.1.1.length:Nat):Int))) (chk (jap (((((r4.1.length:Nat):Int)+ ((r5.1.length:Nat):Int))+ ((r6.1.1.length:Nat):Int))+ ((r7.1.1.length:Nat):Int))) (bif(decide ((((((r4.1.length:Nat):Int)+ ((r5.1.length:Nat):Int))+ ((r6.1.1.length:Nat):Int))+ ((r7.1.1.length:Nat):Int))=0)) then((ja7 (fu nn) ()).bind fun r25=>some r25) else(some false))))) else(some false)) else(some false)) else(some false)) else(some false)) else(bif(decide ((7:Int)<t)) then(bif(decide (r6.2=1)) then(bif(decide (((r6.1.1.length:Nat):Int)=0)) then(bif(decide (r7.2=0)) then((ja7 (fu nn) ()).bind fun r26=>some r26) else(some false)) else(some false)) else(some false)) else(bif(decide (r4.2=0)) then(bif(decide (r5.2=r4.2)) then(bif(decide (r6.2=0)) then(bif(decide (r7.2=0)) then((ja7 (fu nn) ()).bind fun r27=>some r27) else(some false)) else(some false)) else(bif(decide (r4.2=0)) then(bif(decide (r5.2=12)) then(bif(decide (r6.2=0)) then(bif(decide (r7.2=0)) then((ja7 (fu nn) ()).bind fun r28=>some r28) else(some false)) else(some false)) else(some false)) else(some false))) else(bif(decide (r4.2=11)) then(bif(decide (r5.2=r4.2)) then(bif(decide (r6.2=0)) then(bif(decide (r7.2=0)) then((ja7 (fu nn) ()).bind fun r29=>some r29) else(some false)) else(some false)) else(bif(decide (r4.2=0)) then(bif(decide (r5.2=12)) then(bif(decide (r6.2=0)) then(bif(decide (r7.2=0)) then((ja7 (fu nn) ()).bind fun r30=>some r30) else(some false)) else(some false)) else(some false)) else(some false))) else(some false))))) fun x=>x=true:=by
  rcases fin with⟨h0,rfl,rfl,rfl,rfl⟩ | ⟨rfl,f7,f6,f5⟩
  ·refine jac (fun _=>jac (fun _=>jac (fun _=>jac (fun _=>jac (fun _=>jab (show jap 0=true by decide) (jab (show jap 0=true by decide) (jab (show jap 0=true by decide) (jac (fun _=>LV) fun c=>absurd (show(0:Int)=0 from rfl) c)))) fun c=>absurd rfl c) fun c=>absurd rfl c) fun c=>absurd rfl c) fun c=>absurd rfl c) fun c=>absurd h0 c
  ·refine jac (fun c=>absurd rfl c) fun _=>?_
   rcases f6 with⟨h7,rfl⟩ | ⟨h7,f6⟩
   ·exact jac (fun _=>jac (fun _=>jac (fun _=>jac (fun _=>LV) fun c=>absurd f7 c) fun c=>absurd (by decide) c) fun c=>absurd rfl c) fun c=>absurd h7 c
   ·refine jac (fun c=>absurd c h7) fun _=>?_
    have l67:Ret (bif(decide (r6.2=0)) then(bif(decide (r7.2=0)) then((ja7 (fu nn) ()).bind fun r27=>some r27) else(some false)) else(some false)) fun x=>x=true:=jac (fun _=>jac (fun _=>LV) fun c=>absurd f7 c) fun c=>absurd f6 c
    rcases f5 with⟨a,b⟩ | ⟨a,b⟩ | ⟨a,b⟩
    ·exact jac (fun _=>jac (fun _=>l67) fun c=>absurd (by rw[a,b]) c) fun c=>absurd a c
    ·exact jac (fun _=>jac (fun c=>by rw[a,b] at c;cases c) fun _=>jac (fun _=>jac (fun _=>l67) fun c=>absurd b c) fun c=>absurd a c) fun c=>absurd a c
    ·exact jac (fun c=>by rw[a] at c;cases c) fun _=>jac (fun _=>jac (fun _=>l67) fun c=>absurd (by rw[a,b]) c) fun c=>absurd a c
 refine jh2 (fun x=>(x=false∧VF f∧jkz≤3∧bend≤1)∨(x=true∧¬(VF f∧jkz≤3∧bend≤1))) (fun x19 hx19=>?_) fun j19 hj19=>?_
 rotate_left
 ·rcases hx with⟨rfl,v⟩ | ⟨rfl,v⟩
  rotate_left
  ·exact hj19 _ (.inr ⟨rfl,fun c=>v c.1⟩)
  simp only[cond_false]
  refine jac (fun g=>hj19 _ (.inr ⟨rfl,fun c=>by omega⟩)) fun g1=>?_
  by_cases g2:1<bend
  ·rw[decide_eq_true g2];exact hj19 _ (.inr ⟨rfl,fun c=>by omega⟩)
  ·rw[decide_eq_false g2];exact hj19 _ (.inl ⟨rfl,v,by omega,by omega⟩)
 refine jh2 (fun _=>True) (fun _ _=>END) fun j20 hj20=>?_
 rcases hx19 with⟨rfl,v,s3,b1⟩ | ⟨rfl,v⟩
 rotate_left
 ·rcases h18 with⟨a,b,c,_⟩ | ⟨_,rfl⟩
  ·exact absurd ⟨a,b,c⟩ v
  ·exact hj20 _ trivial
 rcases h18 with⟨_,_,_,h18⟩ | ⟨c,_⟩
 rotate_left
 ·exact absurd ⟨v,s3,b1⟩ c
 simp only[cond_false]
 refine jab (by simp only[Bool.and_eq_true,decide_eq_true_eq];omega) ?_
 refine jh2 (fun x=>x=false) (fun x hx=>by subst hx;exact hj20 _ trivial) fun j21 hj21=>?_
 have hf:=v.ok l0 l1 l2
 have hbd: -1≤(nxH jkz bend).2.2∧(nxH jkz bend).2.2≤1:=⟨by simp only;omega,by simp only;omega⟩
 by_cases g:jkz<2
 ·rw[if_neg (by omega)] at h18
  subst h18
  refine jac (fun _=>?_) fun c=>absurd g c
  rw[j9e (hf.ov hbd),show jdk (fu nn) ((f.1,f.2.1,f.2.2),ovF f (nxH jkz bend),(0,0),decide (jkz%2=1),bend)=some (decide (ovF f (nxH jkz bend)=ovF f (nxH jkz bend))) from j1t hf (by omega) (hf.ov hbd) hbd,Option.bind_some,decide_eq_true rfl]
  simp only[Bool.not_true,cond_false]
  exact jac (fun c=>by omega) fun _=>hj21 _ rfl
 ·rw[if_pos (by omega)] at h18
  subst h18
  refine jac (fun c=>absurd c g) fun _=>jac (fun _=>?_) fun c=>by omega
  rw[j9e (hf.bk hbd),show jdk (fu nn) (bkF f (nxH jkz bend),(f.1,f.2.1,f.2.2),(0,0),decide (jkz%2=1),bend)=some (decide (ovF (bkF f (nxH jkz bend)) (nxH jkz bend)=f)) from j1t (hf.bk hbd) (by omega) hf hbd,Option.bind_some,kex hf hbd,decide_eq_true rfl]
  exact hj21 _ rfl
end X
end Go.Vm
