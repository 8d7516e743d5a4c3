/-
  Segments: what the tables say; the units of a segment.
  Segments: the units of a segment, by the program and by the reference; the law SegmentsUnits.
  Segments: the chapter's examples, run by the kernel.
  Segments: the reference's units; the law SegmentsUnits.
-/
import Derived.Test.YtonohffniohehaaGreatDoorTa
set_option linter.unusedSimpArgs false
set_option linter.unusedVariables false
set_option linter.unusedSectionVars false
set_option linter.unnecessarySimpa false
namespace Go.Vm
namespace X
open W Go.Proofs.Un
theorem adj_pw {α:Type} {r:α→α→Bool} (tr:∀x y z,r x y=true→r y z=true→r x z=true):∀ {l:List α},adj r l=true→l.Pairwise fun x y=>r x y=true
 | [],_=>List.Pairwise.nil
 | x::l,h=>by
   simp only[adj,Bool.and_eq_true] at h
   have ih:=adj_pw tr h.2
   refine List.pairwise_cons.2 ⟨fun y hy=>?_,ih⟩
   cases l with
   | nil=>cases hy
   | cons z l=>
     rcases List.mem_cons.1 hy with e | hy
     ·rw[e];exact h.1
     ·exact tr _ _ _ h.1 ((List.pairwise_cons.1 ih).1 y hy)
theorem asc2_iff {x y:UnT}:asc2 x y=true↔x.1<y.1∨x.1=y.1∧x.2<y.2:=by
 simp[asc2]
structure LiOK (w h:Nat) (x:LiT):Prop where
 k1:1≤x.2.1.1
 k4:x.2.1.1≤4
 c0: -(w:Int)≤x.2.1.2
 c1:x.2.1.2≤(w:Int)+h
 f0:0≤x.2.2.1
 ft:x.2.2.1<x.2.2.2
 t1:x.2.2.2≤2* ((w:Int)+h)
 u0:0≤x.1.1
 u1:x.1.1<4* (w:Int)*h
 e0:0≤x.1.2
 e2:x.1.2≤2
section
variable {w h:Nat} {T:List LiT}
theorem Tab.li (t:Tab w h T) {x:LiT} (hx:x∈T):LiOK w h x:=by
 have:=List.all_eq_true.1 t.ok x hx
 simp only[okLi,Bool.and_eq_true,decide_eq_true_eq] at this
 obtain⟨⟨⟨⟨⟨⟨⟨⟨⟨⟨a1,a2⟩,a3⟩,a4⟩,a5⟩,a6⟩,a7⟩,a8⟩,a9⟩,a10⟩,a11⟩:=this
 exact⟨a1,a2,a3,a4,a5,a6,a7,a8,a9,a10,a11⟩
theorem Tab.asc (t:Tab w h T):(T.map (·.1)).Pairwise fun x y=>x.1<y.1∨x.1=y.1∧x.2<y.2:=
 (adj_pw (fun x y z h1 h2=>by rw[asc2_iff] at *;omega) t.up).imp fun h=>asc2_iff.1 h
theorem Tab.ndU (t:Tab w h T):(T.map (·.1)).Nodup:=t.asc.imp fun {a b} h e=>by subst e;omega
theorem pwB_pw {α:Type} {r:α→α→Bool}:∀ {l:List α},pwB r l=true→l.Pairwise fun x y=>r x y=true
 | [],_=>List.Pairwise.nil
 | x::l,h=>by
   simp only[pwB,Bool.and_eq_true] at h
   exact List.pairwise_cons.2 ⟨fun y hy=>List.all_eq_true.1 h.1 y hy,pwB_pw h.2⟩
theorem Tab.key (t:Tab w h T):KeyD T:=(pwB_pw t.kd).imp fun {x y} h ⟨h1,h2⟩=>by
 simp[keyN,h1,h2] at h
theorem Tab.len (t:Tab w h T) (hw:w≤6) (hh:h≤6):T.length≤1000:=by
 have hn:=t.ndU
 have:(T.map (·.1)).length≤1000:=by
  have hsub:∀u∈T.map (·.1),u∈((List.range 144).flatMap fun(i:Nat)=>(List.range 3).map fun(e:Nat)=>(((i:Nat):Int),((e:Nat):Int))):=by
   intro u hu
   obtain⟨x,hx,rfl⟩:=List.mem_map.1 hu
   have:=t.li hx
   have h1:=this.u0;have h2:=this.u1;have h3:=this.e0;have h4:=this.e2
   have h5:4* (w:Int)*h≤4*6*6:=by
    have:w*h≤6*6:=Nat.mul_le_mul hw hh
    have e:(4* (w:Int)*h)=4* ((w*h:Nat):Int):=by rw[Int.natCast_mul,Int.mul_assoc]
    omega
   refine List.mem_flatMap.2 ⟨x.1.1.toNat,List.mem_range.2 (by omega),List.mem_map.2 ⟨x.1.2.toNat,List.mem_range.2 (by omega),?_⟩⟩
   exact Prod.ext (by simp only;omega) (by simp only;omega)
  have:=hn.length_le_of_subset hsub
  exact Nat.le_trans this (by decide +kernel)
 simpa using this
theorem pieces_ok (t:Tab w h T) (hw:1≤w∧w≤6) (hh:1≤h∧h≤6):segments_pieces fuel ((w:Int),(h:Int))=some (mapT T):=by
 have hlen:=t.len hw.2 hh.2
 apply Ret.eq
 unfold segments_pieces
 rw[t.us,Option.bind_some]
 refine Ret_loop (fun s:Int×List (((Int×Int)×Int)×((Int×Int)×Int))=>∃i:Nat,s.1=(i:Int)∧i≤T.length∧s.2=mapT (T.take i)) (fun s=>T.length-s.1.toNat) ?_ fuel _ ⟨0,rfl,Nat.zero_le _,rfl⟩ (by simp only[fuel];omega)
 rintro ⟨s1,s2⟩ rec ⟨i,h1,h2,h3⟩ hrec
 simp only at h1 h3 ⊢
 subst h1
 subst h3
 refine Ret_dec (fun hlt=>?_) fun hge=>?_
 ·rw[List.length_map] at hlt
  have hi:i<T.length:=by omega
  have hx:(T.map (·.1)).getD ((i:Int).toNat) (0,0)=T[i].1:=by
   rw[Int.toNat_natCast,List.getD_eq_getElem?_getD,List.getElem?_map,List.getElem?_eq_getElem hi];rfl
  rw[hx]
  have hl:=List.all_eq_true.1 t.lie _ (List.getElem_mem hi)
  unfold lieOK at hl
  refine Ret_chk (inb_t (by omega) (by rw[List.length_map];exact hlt)) ?_
  split at hl
  rotate_left
  ·cases hl
  rename_i r hr
  rw[hr,Option.bind_some]
  simp only[Bool.and_eq_true,decide_eq_true_eq] at hl
  obtain⟨⟨⟨l1,l2⟩,l3⟩,l4⟩:=hl
  refine Ret_chk (i64b_t (by omega) (by omega)) (hrec _ ⟨i+1,by simp,hi,?_⟩ (by simp only;omega))
  rw[l1,l2,l3,l4,take_get T i hi,mput_new]
  ·unfold mapT
   rw[List.map_append]
   rfl
  ·intro a ha
   obtain⟨y,hy,rfl⟩:=List.mem_map.1 ha
   cases hq:KT.eqb ((T[i].2.1.1,T[i].2.1.2),T[i].2.2.1) (y.2.1,y.2.2.1) with
   | false=>rfl
   | true=>
     have e:=(eqb_KT _ _).1 hq
     simp only[Prod.mk.injEq] at e
     obtain⟨j,hj,hjy⟩:=List.mem_take_iff_getElem.1 hy
     have hkd:=List.pairwise_iff_getElem.1 t.key j i (by omega) hi (by omega)
     rw[hjy] at hkd
     exact absurd (And.intro e.1.symm e.2.symm) hkd
 ·have hi:i=T.length:=by rw[List.length_map] at hge;omega
  subst hi
  rw[List.take_length]
  exact Ret_some rfl
end
end X
end Go.Vm
namespace Go.Vm
namespace X
open W
def TB (T:List LiT):Prop:=∀x∈T,0≤x.2.2.1∧x.2.2.1<x.2.2.2∧x.2.2.2≤24
theorem Tab.tb {w h:Nat} {T:List LiT} (t:Tab w h T) (hw:w≤6) (hh:h≤6):TB T:=fun x hx=>by
 have:=t.li hx
 exact⟨this.f0,this.ft,by have:=this.t1;omega⟩
def wk (T:List LiT) (l:Int×Int) (tq:Int):Nat→Int→Option (List UnT)
 | 0,_=>none
 | n+1,p=>if p=tq then some [] else match lkT T l p with
   | none=>none
   | some x=>if tq<x.2.2.2 then none else(wk T l tq n x.2.2.2).map (x.1::·)
def mm (p:Int):Nat:=if 0≤p∧p≤24 then(24-p).toNat+1 else 26
theorem wk_st {T:List LiT} (hT:TB T) {l:Int×Int} {tq:Int}:∀(n m:Nat) (p:Int),mm p≤n→mm p≤m→wk T l tq n p=wk T l tq m p
 | 0,_,p,h,_=>by unfold mm at h;split at h<;>omega
 | n+1,0,p,_,h=>by unfold mm at h;split at h<;>omega
 | n+1,m+1,p,hn,hm=>by
   simp only[wk]
   split
   ·rfl
   ·cases hl:lkT T l p with
    | none=>rfl
    | some x=>
      obtain⟨h1,h2,h3⟩:=lkT_some hl
      obtain⟨b1,b2,b3⟩:=hT x h1
      have e:mm x.2.2.2+1≤mm p:=by
       unfold mm
       rw[if_pos (by omega),if_pos (by omega)]
       omega
      simp only
      rw[wk_st hT n m x.2.2.2 (by omega) (by omega)]
def wkS (T:List LiT) (l:Int×Int) (tq p:Int):Option (List UnT):=wk T l tq (mm p) p
theorem wkS_eq {T:List LiT} (hT:TB T) (l:Int×Int) (tq p:Int):wkS T l tq p=if p=tq then some [] else match lkT T l p with
  | none=>none
  | some x=>if tq<x.2.2.2 then none else(wkS T l tq x.2.2.2).map (x.1::·):=by
 unfold wkS
 cases hm:mm p with
 | zero=>unfold mm at hm;split at hm<;>omega
 | succ n=>
   simp only[wk]
   split
   ·rfl
   ·cases hl:lkT T l p with
    | none=>rfl
    | some x=>
      obtain⟨h1,h2,h3⟩:=lkT_some hl
      obtain⟨b1,b2,b3⟩:=hT x h1
      have e:mm x.2.2.2+1≤mm p:=by
       unfold mm
       rw[if_pos (by omega),if_pos (by omega)]
       omega
      simp only
      rw[wk_st hT n (mm x.2.2.2) x.2.2.2 (by omega) (Nat.le_refl _)]
abbrev SgT:=Int×((Int×Int)×(Int×Int))
structure OrdP (x:SgT):Prop where
 k1:1≤x.1
 k3:x.1≤3
 l1:1≤x.2.1.1
 l4:x.2.1.1≤4
 c0: -4096≤x.2.1.2
 c1:x.2.1.2≤4096
 ft:x.2.2.1<x.2.2.2
open Classical in
noncomputable def unitsR (T:List LiT) (x:SgT):List UnT×Int:=if OrdP x then(match wkS T x.2.1 x.2.2.2 x.2.2.1 with
 | none=>([],7)
 | some u=>(u,0)) else([],1)
theorem lines_Check_ok (l:Int×Int):lines_Check fuel l=some 0∧(1≤l.1∧l.1≤4∧ -4096≤l.2∧l.2≤4096)∨lines_Check fuel l=some 1∧¬(1≤l.1∧l.1≤4∧ -4096≤l.2∧l.2≤4096):=by
 unfold lines_Check
 by_cases h1:l.1<1
 ·simp only[h1,decide_true,cond_true];exact .inr ⟨trivial,by omega⟩
 by_cases h2:4<l.1
 ·simp only[h1,h2,decide_true,decide_false,cond_true,cond_false];exact .inr ⟨trivial,by omega⟩
 by_cases h3:l.2 < -4096
 ·simp only[h1,h2,h3,decide_true,decide_false,cond_true,cond_false];exact .inr ⟨trivial,by omega⟩
 by_cases h4:4096<l.2
 ·simp only[h1,h2,h3,h4,decide_true,decide_false,cond_true,cond_false];exact .inr ⟨trivial,by omega⟩
 simp only[h1,h2,h3,h4,decide_false,cond_false]
 exact .inl ⟨trivial,by omega⟩
theorem ordinary_ok (x:SgT):∃b,segments_ordinary fuel x=some b∧(b=true↔OrdP x):=by
 unfold segments_ordinary
 by_cases h1:1≤x.1
 rotate_left
 ·simp only[h1,decide_false,cond_false];exact⟨_,rfl,by simp;intro h;exact h1 h.k1⟩
 by_cases h2:x.1≤3
 rotate_left
 ·simp only[h1,h2,decide_true,decide_false,cond_true,cond_false];exact⟨_,rfl,by simp;intro h;exact h2 h.k3⟩
 simp only[h1,h2,decide_true,cond_true]
 rcases lines_Check_ok (x.2.1.1,x.2.1.2) with⟨e,g⟩ | ⟨e,g⟩
 ·rw[e,Option.bind_some]
  simp only[decide_true,cond_true]
  simp only at g
  exact⟨_,rfl,by simp only[decide_eq_true_eq];exact⟨fun h=>⟨h1,h2,g.1,g.2.1,g.2.2.1,g.2.2.2,h⟩,fun h=>h.ft⟩⟩
 ·rw[e,Option.bind_some]
  simp only[show((1:Int)=0)=False by simp,decide_false,cond_false]
  exact⟨_,rfl,by simp;intro h;exact g ⟨h.l1,h.l4,h.c0,h.c1⟩⟩
section
variable {w h:Nat} {T:List LiT}
theorem sheet_Check_ok (hw:1≤w∧w≤6) (hh:1≤h∧h≤6):sheets_Check fuel ((w:Int),(h:Int))=some 0:=by
 unfold sheets_Check
 have h5:w*h≤6*6:=Nat.mul_le_mul hw.2 hh.2
 have e:((w:Int)*h)=((w*h:Nat):Int):=by rw[Int.natCast_mul]
 have n1:¬((w:Int)<1):=by omega
 have n2:¬((h:Int)<1):=by omega
 have n3:¬((256:Int)<w):=by omega
 have n4:¬((256:Int)<h):=by omega
 have n5:¬((256:Int)< (w:Int)*h):=by omega
 simp only[n1,n2,n3,n4,decide_false,cond_false]
 rw[i64b_t (by omega) (by omega)]
 simp only[chk,cond_true,n5,decide_false,cond_false]
theorem wk_loop (hT:TB T) {l:Int×Int} {tq:Int} {β:Type} (bad:β) (done:List UnT→β) (K:List UnT→Option β) (hK:∀L,L.length≤24→K L=some (done L))
  {step:((List UnT×Int)→Option β)→(List UnT×Int)→Option β}
  (hs:∀rec s,step rec s=bif(decide (s.2≠tq)) then(bif(!(mgetP KT VT ((l.1,l.2),s.2) (mapT T)).isSome) then(some bad) else(bif(decide (tq< ((mgetP KT VT ((l.1,l.2),s.2) (mapT T)).getD ((0,0),0)).2)) then(some bad) else(chk (lenOk (s.1.length+1)) (rec ((s.1++[(((mgetP KT VT ((l.1,l.2),s.2) (mapT T)).getD ((0,0),0)).1.1,((mgetP KT VT ((l.1,l.2),s.2) (mapT T)).getD ((0,0),0)).1.2)]),((mgetP KT VT ((l.1,l.2),s.2) (mapT T)).getD ((0,0),0)).2))))) else K s.1) (p:Int):
  loopF step fuel ([],p)=some (match wkS T l tq p with
   | none=>bad
   | some u=>done u):=by
 refine(loopF_eq (fun s:List UnT×Int=>(s.1=[]∨(0≤s.2∧s.2≤24∧s.1.length≤s.2.toNat))) (fun s=>mm s.2) (fun s=>some (match wkS T l tq s.2 with
  | none=>bad
  | some u=>done (s.1++u))) ?_ fuel ([],p) (.inl rfl) (by unfold mm;simp only[fuel];split<;>omega)).trans (by simp)
 rintro ⟨A,p⟩ rec hI hrec
 simp only at hI
 rw[hs,wkS_eq hT]
 simp only
 by_cases hp:p=tq
 ·simp only[hp,ne_eq,not_true_eq_false,decide_false,cond_false,if_true]
  rw[List.append_nil]
  exact hK A (by rcases hI with e | ⟨_,_,_⟩<;>(try subst e)<;>(try simp)<;>omega)
 ·simp only[hp,ne_eq,not_false_eq_true,decide_true,cond_true,if_false]
  rw[show(l.1,l.2)=l from rfl,mget_mapT]
  cases hl:lkT T l p with
  | none=>rfl
  | some x=>
    obtain⟨h1,h2,h3⟩:=lkT_some hl
    obtain⟨b1,b2,b3⟩:=hT x h1
    simp only[Option.map_some,Option.isSome_some,Bool.not_true,cond_false,Option.getD_some]
    by_cases hq:tq<x.2.2.2
    ·simp only[hq,decide_true,cond_true,if_true]
    ·simp only[hq,decide_false,cond_false,if_false]
     have hA:A.length≤p.toNat:=by rcases hI with e | ⟨_,_,e⟩<;>(try subst e)<;>(try simp)<;>omega
     rw[lenOk_t (by omega)]
     simp only[chk,cond_true]
     rw[hrec (A++[x.1],x.2.2.2) (.inr ⟨by simp only;omega,by simp only;omega,by simp only[List.length_append,List.length_singleton];omega⟩) (by
      unfold mm
      simp only
      rw[if_pos (by omega),if_pos (by omega)]
      omega)]
     simp only
     cases wkS T l tq x.2.2.2 with
     | none=>rfl
     | some u=>simp
theorem Units_ok (t:Tab w h T) (hw:1≤w∧w≤6) (hh:1≤h∧h≤6) (x:SgT):segments_Units fuel (((w:Int),(h:Int)),x)=some (unitsR T x):=by
 unfold segments_Units
 simp only
 rw[sheet_Check_ok hw hh,Option.bind_some]
 simp only[ne_eq,not_true_eq_false,decide_false,cond_false]
 rw[pieces_ok t hw hh,Option.bind_some]
 obtain⟨b,e,hb⟩:=ordinary_ok x
 rw[show(x.1,((x.2.1.1,x.2.1.2),(x.2.2.1,x.2.2.2)))=x from rfl,e,Option.bind_some]
 unfold unitsR
 cases b with
 | false=>
   rw[if_neg fun h=>by have:=hb.2 h;cases this]
   rfl
 | true=>
   rw[if_pos (hb.1 rfl)]
   simp only[Bool.not_true,cond_false]
   refine(wk_loop (t.tb hw.2 hh.2) (l:=x.2.1) (tq:=x.2.2.2) (([]:List UnT),(7:Int)) (fun L=>(L,0)) (fun L=>(chk (bnb 0 ((L.length:Nat):Int) L.length&&decide (((L.length:Nat):Int)≤((L.length:Nat):Int))&&decide (((L.length:Nat):Int)≤((L.length:Nat):Int))) (chk ((Nat.beq 0 0)&&(capIs (some L.length) (L.take L.length).length)) (some ((L.take L.length),(0:Int)))))) (fun L hL=>?_) (fun rec s=>rfl) x.2.2.1).trans ?_
   ·have e1:bnb 0 ((L.length:Nat):Int) L.length=true:=bnb_iff.2 ⟨by omega,by omega,by omega⟩
    simp only[e1,Int.le_refl,decide_true,Bool.and_self,chk,cond_true,List.take_length,capIs]
    simp
   ·cases wkS T x.2.1 x.2.2.2 x.2.2.1<;>rfl
end
end X
end Go.Vm
namespace Go.Vm
namespace X
open W
theorem lives07:law07_lives fuel ()=some true:=by kernel_rfl
end X
end Go.Vm
namespace Go.Vm
namespace X
open W
theorem ref_Valid_ok (l:Int×Int):ref01_Valid fuel l=some 1∧(1≤l.1∧l.1≤4∧ -4096≤l.2∧l.2≤4096)∨ref01_Valid fuel l=some 0∧¬(1≤l.1∧l.1≤4∧ -4096≤l.2∧l.2≤4096):=by
 by_cases h1:1≤l.1
 rotate_left
 ·exact .inr ⟨by unfold ref01_Valid;simp only[h1,decide_false,cond_false],by omega⟩
 by_cases h2:l.1≤4
 rotate_left
 ·exact .inr ⟨by unfold ref01_Valid;simp only[h1,h2,decide_true,decide_false,cond_true,cond_false],by omega⟩
 by_cases h3: -4096≤l.2
 rotate_left
 ·exact .inr ⟨by unfold ref01_Valid;simp only[h1,h2,h3,decide_true,decide_false,cond_true,cond_false],by omega⟩
 by_cases h4:l.2≤4096
 rotate_left
 ·exact .inr ⟨by unfold ref01_Valid;simp only[h1,h2,h3,h4,decide_true,decide_false,cond_true,cond_false],by omega⟩
 exact .inl ⟨by unfold ref01_Valid;simp only[h1,h2,h3,h4,decide_true,cond_true],by omega⟩
section
variable {w h:Nat} {T:List LiT}
theorem refUnits_ok (t:Tab w h T) (hw:1≤w∧w≤6) (hh:1≤h∧h≤6) (x:SgT):ref07_Units fuel (((w:Int),(h:Int)),x)=some (unitsR T x):=by
 unfold ref07_Units unitsR
 simp only
 by_cases h1:x.1<1
 ·simp only[h1,decide_true,cond_true]
  rw[if_neg fun h=>by have:=h.k1;omega]
 by_cases h2:3<x.1
 ·simp only[h1,h2,decide_true,decide_false,cond_true,cond_false]
  rw[if_neg fun h=>by have:=h.k3;omega]
 simp only[h1,h2,decide_false,cond_false]
 rcases ref_Valid_ok (x.2.1.1,x.2.1.2) with⟨e,g⟩ | ⟨e,g⟩
 rotate_left
 ·rw[e,Option.bind_some]
  simp only[decide_true,cond_true]
  rw[if_neg fun h=>g ⟨h.l1,h.l4,h.c0,h.c1⟩]
 rw[e,Option.bind_some]
 simp only at g
 simp only[show((1:Int)=0)=False by simp,decide_false,cond_false]
 by_cases h3:x.2.2.2≤x.2.2.1
 ·simp only[h3,decide_true,cond_true]
  rw[if_neg fun h=>by have:=h.ft;omega]
 simp only[h3,decide_false,cond_false]
 rw[if_pos ⟨by omega,by omega,g.1,g.2.1,g.2.2.1,g.2.2.2,by omega⟩]
 rw[t.all,Option.bind_some]
 have hT:=t.tb hw.2 hh.2
 have hlen:=t.len hw.2 hh.2
 refine(loopF_eq (fun s:List UnT×Int=>(s.1=[]∧s.2≤x.2.2.2∨(0≤s.2∧s.2≤24∧s.1.length≤s.2.toNat))) (fun s=>mm s.2) (fun s=>some (match (if s.2≤x.2.2.2 then wkS T x.2.1 x.2.2.2 s.2 else none) with
  | none=>(([]:List UnT),(7:Int))
  | some u=>(s.1++u,0))) ?_ fuel ([],x.2.2.1) (.inl ⟨rfl,by simp only;omega⟩) (by unfold mm;simp only[fuel];split<;>omega)).trans (by simp only[show x.2.2.1≤x.2.2.2 by omega,if_true,List.nil_append]<;>cases wkS T x.2.1 x.2.2.2 x.2.2.1<;>rfl)
 rintro ⟨A,p⟩ rec hI hrec
 simp only at hI ⊢
 by_cases hp:p<x.2.2.2
 ·simp only[hp,decide_true,cond_true,show p≤x.2.2.2 by omega,if_true]
  rw[At_ok (by omega),wkS_eq hT,Option.bind_some,if_neg (show ¬p=x.2.2.2 by omega)]
  rw[show(x.2.1.1,x.2.1.2)=x.2.1 from rfl]
  cases hl:lkT T x.2.1 p with
  | none=>rfl
  | some y=>
    obtain⟨g1,g2,g3⟩:=lkT_some hl
    obtain⟨b1,b2,b3⟩:=hT y g1
    simp only[show((1:Int)=0)=False by simp,decide_false,cond_false]
    have hA:A.length≤p.toNat:=by rcases hI with⟨e,_⟩ | ⟨_,_,e⟩<;>(try subst e)<;>(try simp)<;>omega
    rw[lenOk_t (by omega)]
    simp only[chk,cond_true]
    rw[hrec (A++[y.1],y.2.2.2) (.inr ⟨by simp only;omega,by simp only;omega,by simp only[List.length_append,List.length_singleton];omega⟩) (by
     unfold mm
     simp only
     rw[if_pos (by omega),if_pos (by omega)]
     omega)]
    simp only
    by_cases hq:x.2.2.2<y.2.2.2
    ·rw[if_neg (by omega),if_pos hq]
    ·rw[if_pos (by omega),if_neg hq]
     cases wkS T x.2.1 x.2.2.2 y.2.2.2 with
     | none=>rfl
     | some u=>simp
 ·simp only[hp,decide_false,cond_false]
  by_cases he:p=x.2.2.2
  ·subst he
   simp only[ne_eq,not_true_eq_false,decide_false,cond_false,Int.le_refl,if_true]
   rw[wkS_eq hT,if_pos rfl]
   simp
  ·simp only[he,ne_eq,not_false_eq_true,decide_true,cond_true,show ¬p≤x.2.2.2 by omega,if_false]
theorem wk_far {T:List LiT} (hT:TB T) {l:Int×Int} {tq:Int} (h24:24<tq):∀(n:Nat) (p:Int),p<tq→wk T l tq n p=none
 | 0,_,_=>rfl
 | n+1,p,hp=>by
   simp only[wk]
   rw[if_neg (by omega)]
   cases hl:lkT T l p with
   | none=>rfl
   | some x=>
     obtain⟨h1,h2,h3⟩:=lkT_some hl
     obtain⟨b1,b2,b3⟩:=hT x h1
     simp only
     rw[wk_far hT h24 n x.2.2.2 (by omega)]
     split<;>rfl
theorem units_len {x:SgT} {T:List LiT} (h:(unitsR T x).2≠0):(unitsR T x).1=[]:=by
 unfold unitsR at h ⊢
 by_cases ho:OrdP x
 ·rw[if_pos ho] at h ⊢
  cases hu:wkS T x.2.1 x.2.2.2 x.2.2.1 with
  | none=>rfl
  | some u=>rw[hu] at h;exact absurd rfl h
 ·rw[if_neg ho]
theorem wk_len {T:List LiT} (hT:TB T) {l:Int×Int} {tq:Int}:∀(n:Nat) (p:Int) (u:List UnT),wk T l tq n p=some u→u=[]∨(0≤p∧p<24∧u.length≤(24-p).toNat)
 | 0,_,_,h=>by cases h
 | n+1,p,u,h=>by
   simp only[wk] at h
   split at h
   ·cases h;exact .inl rfl
   ·cases hl:lkT T l p with
    | none=>rw[hl] at h;cases h
    | some x=>
      obtain⟨h1,h2,h3⟩:=lkT_some hl
      obtain⟨b1,b2,b3⟩:=hT x h1
      rw[hl] at h
      simp only at h
      split at h
      ·cases h
      ·obtain⟨v,hv,rfl⟩:=Option.map_eq_some_iff.1 h
       right
       rcases wk_len hT n _ v hv with rfl | ⟨g1,g2,g3⟩
       ·simp only[List.length_cons,List.length_nil];omega
       ·simp only[List.length_cons];omega
theorem units_le {T:List LiT} (hT:TB T) (x:SgT):(unitsR T x).1.length≤24:=by
 unfold unitsR
 by_cases ho:OrdP x
 ·rw[if_pos ho]
  cases hu:wkS T x.2.1 x.2.2.2 x.2.2.1 with
  | none=>simp
  | some u=>
    rcases wk_len hT _ _ _ hu with rfl | ⟨g1,g2,g3⟩
    ·simp
    ·simp only;omega
 ·rw[if_neg ho];simp
theorem units_far (hT:TB T) {x:SgT} (hx:64<x.2.2.2∨x.2.2.1 < -64):(unitsR T x).2≠0:=by
 unfold unitsR
 split
 ·rename_i ho
  have:wkS T x.2.1 x.2.2.2 x.2.2.1=none:=by
   rcases hx with hx | hx
   ·exact wk_far hT (by omega) _ _ ho.ft
   ·rw[wkS_eq hT,if_neg (by have:=ho.ft;omega)]
    cases hl:lkT T x.2.1 x.2.2.1 with
    | none=>rfl
    | some y=>
      obtain⟨g1,g2,g3⟩:=lkT_some hl
      have:=(hT y g1).1
      omega
  rw[this]
  simp
 ·simp
theorem Check_ok (t:Tab w h T) (hw:1≤w∧w≤6) (hh:1≤h∧h≤6) (x:SgT):segments_Check fuel (((w:Int),(h:Int)),x)=some (unitsR T x).2:=by
 unfold segments_Check
 have:=Units_ok t hw hh x
 simp only at this ⊢
 rw[this,Option.bind_some]
end
theorem W_Of_ok {a:Int×Int} (h1:0≤a.1) (h2:a.1≤255) (h3:0≤a.2) (h4:a.2≤255):∃w h:Nat,(1≤w∧w≤5)∧(1≤h∧h≤5)∧law05_W_Of fuel a=some ((w:Int),(h:Int)):=by
 refine⟨1+ (a.1%5).toNat,1+ (a.2%5).toNat,by omega,by omega,?_⟩
 apply Ret.eq
 unfold law05_W_Of
 refine Ret_chk (by simp;omega) (Ret_chk (i64b_t (by omega) (by omega)) (Ret_chk (i64b_t (by omega) (by omega)) (Ret_chk (by simp;omega) (Ret_chk (i64b_t (by omega) (by omega)) (Ret_chk (i64b_t (by omega) (by omega)) (Ret_some ?_))))))
 exact Prod.ext (by simp only;omega) (by simp only;omega)
theorem lives_bind:Ret ((law07_lives fuel ()).bind fun r=>some r) fun x=>x=true:=by rw[lives07];exact Ret_some rfl
theorem SegmentsUnits_true (tab:∀w h:Nat,(1≤w∧w≤5)→(1≤h∧h≤5)→∃T,Tab w h T) {a:Int×Int} {x:SgT} (h1:0≤a.1) (h2:a.1≤255) (h3:0≤a.2) (h4:a.2≤255):
  law07_SegmentsUnits fuel (a,x)=some true:=by
 obtain⟨w,h,hw,hh,e⟩:=W_Of_ok h1 h2 h3 h4
 obtain⟨T,t⟩:=tab w h hw hh
 have hw':1≤w∧w≤6:=by omega
 have hh':1≤h∧h≤6:=by omega
 have hT:=t.tb hw'.2 hh'.2
 apply Ret.eq
 unfold law07_SegmentsUnits
 simp only
 rw[show(a.1,a.2)=a from rfl,e,Option.bind_some]
 rw[show(x.1,((x.2.1.1,x.2.1.2),(x.2.2.1,x.2.2.2)))=x from rfl]
 have eU:=Units_ok t hw' hh' x
 have eC:=Check_ok t hw' hh' x
 have eR:=refUnits_ok t hw' hh' x
 simp only
 rw[eU,Option.bind_some]
 refine Ret_jn (fun b=>b=true↔64<x.2.2.2∨x.2.2.1 < -64) (fun b hb=>?_) fun j hj=>?_
 rotate_left
 ·refine Ret_dec (fun g=>hj _ (by simp[g])) fun g=>hj _ (by simp[g])
 ·refine Ret_bif (fun hbt=>?_) fun hbf=>?_
  ·have hfar:=units_far hT (hb.1 hbt)
   refine Ret_dec (fun _=>?_) fun g=>absurd hfar (by simpa using g)
   rw[eC,Option.bind_some]
   refine Ret_dec (fun _=>?_) fun g=>absurd rfl g
   rw[units_len hfar]
   exact Ret_dec (fun _=>lives_bind) fun g=>absurd rfl g
  ·rw[eR,Option.bind_some]
   refine Ret_jn (fun b=>b=false) (fun b hb=>?_) fun j hj=>?_
   rotate_left
   ·refine Ret_dec (fun g=>absurd rfl g) fun _=>?_
    rw[eC,Option.bind_some]
    exact Ret_dec (fun g=>absurd rfl g) fun _=>Ret_dec (fun g=>absurd rfl g) fun _=>hj _ (decide_eq_false fun g=>g rfl)
   ·refine Ret_bif (fun g=>by rw[hb] at g;cases g) fun _=>?_
    generalize hL:(unitsR T x).1=L
    have hLl:L.length≤24:=by
     have:=units_le hT x
     rw[hL] at this
     exact this
    refine Ret_loop (fun i:Int=>0≤i∧i≤L.length) (fun i=>L.length-i.toNat) ?_ fuel 0 ⟨by omega,by omega⟩ (by simp only[fuel];omega)
    rintro i rec ⟨i0,i1⟩ hrec
    refine Ret_dec (fun hlt=>?_) fun _=>lives_bind
    refine Ret_chk (inb_t i0 hlt) (Ret_chk (inb_t i0 hlt) ?_)
    simp only[decide_true,Bool.and_self,Bool.not_true,cond_false]
    exact Ret_chk (i64b_t (by omega) (by omega)) (hrec _ ⟨by omega,by omega⟩ (by omega))
end X
end Go.Vm
