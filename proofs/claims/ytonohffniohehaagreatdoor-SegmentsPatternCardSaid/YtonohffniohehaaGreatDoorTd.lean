/-
  Segments: what the tables say; the units of a segment.
  Segments: the units of a segment, by the program and by the reference; the law SegmentsUnits.
  Segments: the chapter's examples, run by the kernel.
  Segments: the reference's units; the law SegmentsUnits.
  Segments: patterns out of segments, by the program and by the reference.
  Segments: the program's Pattern and the reference's.
  Segments: the reference's Pattern.
  Segments: the law SegmentsPattern.
-/
import Derived.Test.YtonohffniohehaaGreatDoorTa
set_option linter.unusedSimpArgs false
set_option linter.unusedVariables false
set_option linter.unusedSectionVars false
set_option linter.unnecessarySimpa false
namespace Go.Vm
namespace X
open W Go.Proofs.Un
theorem adj_pw {α:Type} {r:α→α→Bool} (tr:∀x y z,r x y=true→r y z=true→r x z=true):∀ {l:List α},adj r l=true→l.Pairwise fun x y=>r x y=true
 | [],_=>List.Pairwise.nil
 | x::l,h=>by
   simp only[adj,Bool.and_eq_true] at h
   have ih:=adj_pw tr h.2
   refine List.pairwise_cons.2 ⟨fun y hy=>?_,ih⟩
   cases l with
   | nil=>cases hy
   | cons z l=>
     rcases List.mem_cons.1 hy with e | hy
     ·rw[e];exact h.1
     ·exact tr _ _ _ h.1 ((List.pairwise_cons.1 ih).1 y hy)
theorem asc2_iff {x y:UnT}:asc2 x y=true↔x.1<y.1∨x.1=y.1∧x.2<y.2:=by
 simp[asc2]
structure LiOK (w h:Nat) (x:LiT):Prop where
 k1:1≤x.2.1.1
 k4:x.2.1.1≤4
 c0: -(w:Int)≤x.2.1.2
 c1:x.2.1.2≤(w:Int)+h
 f0:0≤x.2.2.1
 ft:x.2.2.1<x.2.2.2
 t1:x.2.2.2≤2* ((w:Int)+h)
 u0:0≤x.1.1
 u1:x.1.1<4* (w:Int)*h
 e0:0≤x.1.2
 e2:x.1.2≤2
section
variable {w h:Nat} {T:List LiT}
theorem Tab.li (t:Tab w h T) {x:LiT} (hx:x∈T):LiOK w h x:=by
 have:=List.all_eq_true.1 t.ok x hx
 simp only[okLi,Bool.and_eq_true,decide_eq_true_eq] at this
 obtain⟨⟨⟨⟨⟨⟨⟨⟨⟨⟨a1,a2⟩,a3⟩,a4⟩,a5⟩,a6⟩,a7⟩,a8⟩,a9⟩,a10⟩,a11⟩:=this
 exact⟨a1,a2,a3,a4,a5,a6,a7,a8,a9,a10,a11⟩
theorem Tab.asc (t:Tab w h T):(T.map (·.1)).Pairwise fun x y=>x.1<y.1∨x.1=y.1∧x.2<y.2:=
 (adj_pw (fun x y z h1 h2=>by rw[asc2_iff] at *;omega) t.up).imp fun h=>asc2_iff.1 h
theorem Tab.ndU (t:Tab w h T):(T.map (·.1)).Nodup:=t.asc.imp fun {a b} h e=>by subst e;omega
theorem nodup_inj {α:Type} {l:List α} (h:l.Nodup) {i j:Nat} (hi:i<l.length) (hj:j<l.length) (e:l[i]=l[j]):i=j:=by
 rcases Nat.lt_trichotomy i j with g | g | g
 ·exact absurd e (List.pairwise_iff_getElem.1 h i j hi hj g)
 ·exact g
 ·exact absurd e.symm (List.pairwise_iff_getElem.1 h j i hj hi g)
theorem Tab.unitInj (t:Tab w h T) {x y:LiT} (hx:x∈T) (hy:y∈T) (e:x.1=y.1):x=y:=by
 obtain⟨i,hi,rfl⟩:=List.getElem_of_mem hx
 obtain⟨j,hj,rfl⟩:=List.getElem_of_mem hy
 have h1:(T.map (·.1))[i]'(by simpa using hi)=(T.map (·.1))[j]'(by simpa using hj):=by simpa using e
 have:=nodup_inj t.ndU _ _ h1
 subst this
 rfl
theorem pwB_pw {α:Type} {r:α→α→Bool}:∀ {l:List α},pwB r l=true→l.Pairwise fun x y=>r x y=true
 | [],_=>List.Pairwise.nil
 | x::l,h=>by
   simp only[pwB,Bool.and_eq_true] at h
   exact List.pairwise_cons.2 ⟨fun y hy=>List.all_eq_true.1 h.1 y hy,pwB_pw h.2⟩
theorem Tab.key (t:Tab w h T):KeyD T:=(pwB_pw t.kd).imp fun {x y} h ⟨h1,h2⟩=>by
 simp[keyN,h1,h2] at h
theorem Tab.len (t:Tab w h T) (hw:w≤6) (hh:h≤6):T.length≤1000:=by
 have hn:=t.ndU
 have:(T.map (·.1)).length≤1000:=by
  have hsub:∀u∈T.map (·.1),u∈((List.range 144).flatMap fun(i:Nat)=>(List.range 3).map fun(e:Nat)=>(((i:Nat):Int),((e:Nat):Int))):=by
   intro u hu
   obtain⟨x,hx,rfl⟩:=List.mem_map.1 hu
   have:=t.li hx
   have h1:=this.u0;have h2:=this.u1;have h3:=this.e0;have h4:=this.e2
   have h5:4* (w:Int)*h≤4*6*6:=by
    have:w*h≤6*6:=Nat.mul_le_mul hw hh
    have e:(4* (w:Int)*h)=4* ((w*h:Nat):Int):=by rw[Int.natCast_mul,Int.mul_assoc]
    omega
   refine List.mem_flatMap.2 ⟨x.1.1.toNat,List.mem_range.2 (by omega),List.mem_map.2 ⟨x.1.2.toNat,List.mem_range.2 (by omega),?_⟩⟩
   exact Prod.ext (by simp only;omega) (by simp only;omega)
  have:=hn.length_le_of_subset hsub
  exact Nat.le_trans this (by decide +kernel)
 simpa using this
theorem pieces_ok (t:Tab w h T) (hw:1≤w∧w≤6) (hh:1≤h∧h≤6):segments_pieces fuel ((w:Int),(h:Int))=some (mapT T):=by
 have hlen:=t.len hw.2 hh.2
 apply Ret.eq
 unfold segments_pieces
 rw[t.us,Option.bind_some]
 refine Ret_loop (fun s:Int×List (((Int×Int)×Int)×((Int×Int)×Int))=>∃i:Nat,s.1=(i:Int)∧i≤T.length∧s.2=mapT (T.take i)) (fun s=>T.length-s.1.toNat) ?_ fuel _ ⟨0,rfl,Nat.zero_le _,rfl⟩ (by simp only[fuel];omega)
 rintro ⟨s1,s2⟩ rec ⟨i,h1,h2,h3⟩ hrec
 simp only at h1 h3 ⊢
 subst h1
 subst h3
 refine Ret_dec (fun hlt=>?_) fun hge=>?_
 ·rw[List.length_map] at hlt
  have hi:i<T.length:=by omega
  have hx:(T.map (·.1)).getD ((i:Int).toNat) (0,0)=T[i].1:=by
   rw[Int.toNat_natCast,List.getD_eq_getElem?_getD,List.getElem?_map,List.getElem?_eq_getElem hi];rfl
  rw[hx]
  have hl:=List.all_eq_true.1 t.lie _ (List.getElem_mem hi)
  unfold lieOK at hl
  refine Ret_chk (inb_t (by omega) (by rw[List.length_map];exact hlt)) ?_
  split at hl
  rotate_left
  ·cases hl
  rename_i r hr
  rw[hr,Option.bind_some]
  simp only[Bool.and_eq_true,decide_eq_true_eq] at hl
  obtain⟨⟨⟨l1,l2⟩,l3⟩,l4⟩:=hl
  refine Ret_chk (i64b_t (by omega) (by omega)) (hrec _ ⟨i+1,by simp,hi,?_⟩ (by simp only;omega))
  rw[l1,l2,l3,l4,take_get T i hi,mput_new]
  ·unfold mapT
   rw[List.map_append]
   rfl
  ·intro a ha
   obtain⟨y,hy,rfl⟩:=List.mem_map.1 ha
   cases hq:KT.eqb ((T[i].2.1.1,T[i].2.1.2),T[i].2.2.1) (y.2.1,y.2.2.1) with
   | false=>rfl
   | true=>
     have e:=(eqb_KT _ _).1 hq
     simp only[Prod.mk.injEq] at e
     obtain⟨j,hj,hjy⟩:=List.mem_take_iff_getElem.1 hy
     have hkd:=List.pairwise_iff_getElem.1 t.key j i (by omega) hi (by omega)
     rw[hjy] at hkd
     exact absurd (And.intro e.1.symm e.2.symm) hkd
 ·have hi:i=T.length:=by rw[List.length_map] at hge;omega
  subst hi
  rw[List.take_length]
  exact Ret_some rfl
end
end X
end Go.Vm
namespace Go.Vm
namespace X
open W
def TB (T:List LiT):Prop:=∀x∈T,0≤x.2.2.1∧x.2.2.1<x.2.2.2∧x.2.2.2≤24
theorem Tab.tb {w h:Nat} {T:List LiT} (t:Tab w h T) (hw:w≤6) (hh:h≤6):TB T:=fun x hx=>by
 have:=t.li hx
 exact⟨this.f0,this.ft,by have:=this.t1;omega⟩
def wk (T:List LiT) (l:Int×Int) (tq:Int):Nat→Int→Option (List UnT)
 | 0,_=>none
 | n+1,p=>if p=tq then some [] else match lkT T l p with
   | none=>none
   | some x=>if tq<x.2.2.2 then none else(wk T l tq n x.2.2.2).map (x.1::·)
def mm (p:Int):Nat:=if 0≤p∧p≤24 then(24-p).toNat+1 else 26
theorem wk_st {T:List LiT} (hT:TB T) {l:Int×Int} {tq:Int}:∀(n m:Nat) (p:Int),mm p≤n→mm p≤m→wk T l tq n p=wk T l tq m p
 | 0,_,p,h,_=>by unfold mm at h;split at h<;>omega
 | n+1,0,p,_,h=>by unfold mm at h;split at h<;>omega
 | n+1,m+1,p,hn,hm=>by
   simp only[wk]
   split
   ·rfl
   ·cases hl:lkT T l p with
    | none=>rfl
    | some x=>
      obtain⟨h1,h2,h3⟩:=lkT_some hl
      obtain⟨b1,b2,b3⟩:=hT x h1
      have e:mm x.2.2.2+1≤mm p:=by
       unfold mm
       rw[if_pos (by omega),if_pos (by omega)]
       omega
      simp only
      rw[wk_st hT n m x.2.2.2 (by omega) (by omega)]
def wkS (T:List LiT) (l:Int×Int) (tq p:Int):Option (List UnT):=wk T l tq (mm p) p
theorem wkS_eq {T:List LiT} (hT:TB T) (l:Int×Int) (tq p:Int):wkS T l tq p=if p=tq then some [] else match lkT T l p with
  | none=>none
  | some x=>if tq<x.2.2.2 then none else(wkS T l tq x.2.2.2).map (x.1::·):=by
 unfold wkS
 cases hm:mm p with
 | zero=>unfold mm at hm;split at hm<;>omega
 | succ n=>
   simp only[wk]
   split
   ·rfl
   ·cases hl:lkT T l p with
    | none=>rfl
    | some x=>
      obtain⟨h1,h2,h3⟩:=lkT_some hl
      obtain⟨b1,b2,b3⟩:=hT x h1
      have e:mm x.2.2.2+1≤mm p:=by
       unfold mm
       rw[if_pos (by omega),if_pos (by omega)]
       omega
      simp only
      rw[wk_st hT n (mm x.2.2.2) x.2.2.2 (by omega) (Nat.le_refl _)]
abbrev SgT:=Int×((Int×Int)×(Int×Int))
structure OrdP (x:SgT):Prop where
 k1:1≤x.1
 k3:x.1≤3
 l1:1≤x.2.1.1
 l4:x.2.1.1≤4
 c0: -4096≤x.2.1.2
 c1:x.2.1.2≤4096
 ft:x.2.2.1<x.2.2.2
open Classical in
noncomputable def unitsR (T:List LiT) (x:SgT):List UnT×Int:=if OrdP x then(match wkS T x.2.1 x.2.2.2 x.2.2.1 with
 | none=>([],7)
 | some u=>(u,0)) else([],1)
theorem lines_Check_ok (l:Int×Int):lines_Check fuel l=some 0∧(1≤l.1∧l.1≤4∧ -4096≤l.2∧l.2≤4096)∨lines_Check fuel l=some 1∧¬(1≤l.1∧l.1≤4∧ -4096≤l.2∧l.2≤4096):=by
 unfold lines_Check
 by_cases h1:l.1<1
 ·simp only[h1,decide_true,cond_true];exact .inr ⟨trivial,by omega⟩
 by_cases h2:4<l.1
 ·simp only[h1,h2,decide_true,decide_false,cond_true,cond_false];exact .inr ⟨trivial,by omega⟩
 by_cases h3:l.2 < -4096
 ·simp only[h1,h2,h3,decide_true,decide_false,cond_true,cond_false];exact .inr ⟨trivial,by omega⟩
 by_cases h4:4096<l.2
 ·simp only[h1,h2,h3,h4,decide_true,decide_false,cond_true,cond_false];exact .inr ⟨trivial,by omega⟩
 simp only[h1,h2,h3,h4,decide_false,cond_false]
 exact .inl ⟨trivial,by omega⟩
theorem ordinary_ok (x:SgT):∃b,segments_ordinary fuel x=some b∧(b=true↔OrdP x):=by
 unfold segments_ordinary
 by_cases h1:1≤x.1
 rotate_left
 ·simp only[h1,decide_false,cond_false];exact⟨_,rfl,by simp;intro h;exact h1 h.k1⟩
 by_cases h2:x.1≤3
 rotate_left
 ·simp only[h1,h2,decide_true,decide_false,cond_true,cond_false];exact⟨_,rfl,by simp;intro h;exact h2 h.k3⟩
 simp only[h1,h2,decide_true,cond_true]
 rcases lines_Check_ok (x.2.1.1,x.2.1.2) with⟨e,g⟩ | ⟨e,g⟩
 ·rw[e,Option.bind_some]
  simp only[decide_true,cond_true]
  simp only at g
  exact⟨_,rfl,by simp only[decide_eq_true_eq];exact⟨fun h=>⟨h1,h2,g.1,g.2.1,g.2.2.1,g.2.2.2,h⟩,fun h=>h.ft⟩⟩
 ·rw[e,Option.bind_some]
  simp only[show((1:Int)=0)=False by simp,decide_false,cond_false]
  exact⟨_,rfl,by simp;intro h;exact g ⟨h.l1,h.l4,h.c0,h.c1⟩⟩
section
variable {w h:Nat} {T:List LiT}
theorem sheet_Check_ok (hw:1≤w∧w≤6) (hh:1≤h∧h≤6):sheets_Check fuel ((w:Int),(h:Int))=some 0:=by
 unfold sheets_Check
 have h5:w*h≤6*6:=Nat.mul_le_mul hw.2 hh.2
 have e:((w:Int)*h)=((w*h:Nat):Int):=by rw[Int.natCast_mul]
 have n1:¬((w:Int)<1):=by omega
 have n2:¬((h:Int)<1):=by omega
 have n3:¬((256:Int)<w):=by omega
 have n4:¬((256:Int)<h):=by omega
 have n5:¬((256:Int)< (w:Int)*h):=by omega
 simp only[n1,n2,n3,n4,decide_false,cond_false]
 rw[i64b_t (by omega) (by omega)]
 simp only[chk,cond_true,n5,decide_false,cond_false]
end
end X
end Go.Vm
namespace Go.Vm
namespace X
open W
theorem lives07:law07_lives fuel ()=some true:=by kernel_rfl
end X
end Go.Vm
namespace Go.Vm
namespace X
open W
theorem ref_Valid_ok (l:Int×Int):ref01_Valid fuel l=some 1∧(1≤l.1∧l.1≤4∧ -4096≤l.2∧l.2≤4096)∨ref01_Valid fuel l=some 0∧¬(1≤l.1∧l.1≤4∧ -4096≤l.2∧l.2≤4096):=by
 by_cases h1:1≤l.1
 rotate_left
 ·exact .inr ⟨by unfold ref01_Valid;simp only[h1,decide_false,cond_false],by omega⟩
 by_cases h2:l.1≤4
 rotate_left
 ·exact .inr ⟨by unfold ref01_Valid;simp only[h1,h2,decide_true,decide_false,cond_true,cond_false],by omega⟩
 by_cases h3: -4096≤l.2
 rotate_left
 ·exact .inr ⟨by unfold ref01_Valid;simp only[h1,h2,h3,decide_true,decide_false,cond_true,cond_false],by omega⟩
 by_cases h4:l.2≤4096
 rotate_left
 ·exact .inr ⟨by unfold ref01_Valid;simp only[h1,h2,h3,h4,decide_true,decide_false,cond_true,cond_false],by omega⟩
 exact .inl ⟨by unfold ref01_Valid;simp only[h1,h2,h3,h4,decide_true,cond_true],by omega⟩
section
variable {w h:Nat} {T:List LiT}
theorem refUnits_ok (t:Tab w h T) (hw:1≤w∧w≤6) (hh:1≤h∧h≤6) (x:SgT):ref07_Units fuel (((w:Int),(h:Int)),x)=some (unitsR T x):=by
 unfold ref07_Units unitsR
 simp only
 by_cases h1:x.1<1
 ·simp only[h1,decide_true,cond_true]
  rw[if_neg fun h=>by have:=h.k1;omega]
 by_cases h2:3<x.1
 ·simp only[h1,h2,decide_true,decide_false,cond_true,cond_false]
  rw[if_neg fun h=>by have:=h.k3;omega]
 simp only[h1,h2,decide_false,cond_false]
 rcases ref_Valid_ok (x.2.1.1,x.2.1.2) with⟨e,g⟩ | ⟨e,g⟩
 rotate_left
 ·rw[e,Option.bind_some]
  simp only[decide_true,cond_true]
  rw[if_neg fun h=>g ⟨h.l1,h.l4,h.c0,h.c1⟩]
 rw[e,Option.bind_some]
 simp only at g
 simp only[show((1:Int)=0)=False by simp,decide_false,cond_false]
 by_cases h3:x.2.2.2≤x.2.2.1
 ·simp only[h3,decide_true,cond_true]
  rw[if_neg fun h=>by have:=h.ft;omega]
 simp only[h3,decide_false,cond_false]
 rw[if_pos ⟨by omega,by omega,g.1,g.2.1,g.2.2.1,g.2.2.2,by omega⟩]
 rw[t.all,Option.bind_some]
 have hT:=t.tb hw.2 hh.2
 have hlen:=t.len hw.2 hh.2
 refine(loopF_eq (fun s:List UnT×Int=>(s.1=[]∧s.2≤x.2.2.2∨(0≤s.2∧s.2≤24∧s.1.length≤s.2.toNat))) (fun s=>mm s.2) (fun s=>some (match (if s.2≤x.2.2.2 then wkS T x.2.1 x.2.2.2 s.2 else none) with
  | none=>(([]:List UnT),(7:Int))
  | some u=>(s.1++u,0))) ?_ fuel ([],x.2.2.1) (.inl ⟨rfl,by simp only;omega⟩) (by unfold mm;simp only[fuel];split<;>omega)).trans (by simp only[show x.2.2.1≤x.2.2.2 by omega,if_true,List.nil_append]<;>cases wkS T x.2.1 x.2.2.2 x.2.2.1<;>rfl)
 rintro ⟨A,p⟩ rec hI hrec
 simp only at hI ⊢
 by_cases hp:p<x.2.2.2
 ·simp only[hp,decide_true,cond_true,show p≤x.2.2.2 by omega,if_true]
  rw[At_ok (by omega),wkS_eq hT,Option.bind_some,if_neg (show ¬p=x.2.2.2 by omega)]
  rw[show(x.2.1.1,x.2.1.2)=x.2.1 from rfl]
  cases hl:lkT T x.2.1 p with
  | none=>rfl
  | some y=>
    obtain⟨g1,g2,g3⟩:=lkT_some hl
    obtain⟨b1,b2,b3⟩:=hT y g1
    simp only[show((1:Int)=0)=False by simp,decide_false,cond_false]
    have hA:A.length≤p.toNat:=by rcases hI with⟨e,_⟩ | ⟨_,_,e⟩<;>(try subst e)<;>(try simp)<;>omega
    rw[lenOk_t (by omega)]
    simp only[chk,cond_true]
    rw[hrec (A++[y.1],y.2.2.2) (.inr ⟨by simp only;omega,by simp only;omega,by simp only[List.length_append,List.length_singleton];omega⟩) (by
     unfold mm
     simp only
     rw[if_pos (by omega),if_pos (by omega)]
     omega)]
    simp only
    by_cases hq:x.2.2.2<y.2.2.2
    ·rw[if_neg (by omega),if_pos hq]
    ·rw[if_pos (by omega),if_neg hq]
     cases wkS T x.2.1 x.2.2.2 y.2.2.2 with
     | none=>rfl
     | some u=>simp
 ·simp only[hp,decide_false,cond_false]
  by_cases he:p=x.2.2.2
  ·subst he
   simp only[ne_eq,not_true_eq_false,decide_false,cond_false,Int.le_refl,if_true]
   rw[wkS_eq hT,if_pos rfl]
   simp
  ·simp only[he,ne_eq,not_false_eq_true,decide_true,cond_true,show ¬p≤x.2.2.2 by omega,if_false]
theorem wk_len {T:List LiT} (hT:TB T) {l:Int×Int} {tq:Int}:∀(n:Nat) (p:Int) (u:List UnT),wk T l tq n p=some u→u=[]∨(0≤p∧p<24∧u.length≤(24-p).toNat)
 | 0,_,_,h=>by cases h
 | n+1,p,u,h=>by
   simp only[wk] at h
   split at h
   ·cases h;exact .inl rfl
   ·cases hl:lkT T l p with
    | none=>rw[hl] at h;cases h
    | some x=>
      obtain⟨h1,h2,h3⟩:=lkT_some hl
      obtain⟨b1,b2,b3⟩:=hT x h1
      rw[hl] at h
      simp only at h
      split at h
      ·cases h
      ·obtain⟨v,hv,rfl⟩:=Option.map_eq_some_iff.1 h
       right
       rcases wk_len hT n _ v hv with rfl | ⟨g1,g2,g3⟩
       ·simp only[List.length_cons,List.length_nil];omega
       ·simp only[List.length_cons];omega
theorem units_le {T:List LiT} (hT:TB T) (x:SgT):(unitsR T x).1.length≤24:=by
 unfold unitsR
 by_cases ho:OrdP x
 ·rw[if_pos ho]
  cases hu:wkS T x.2.1 x.2.2.2 x.2.2.1 with
  | none=>simp
  | some u=>
    rcases wk_len hT _ _ _ hu with rfl | ⟨g1,g2,g3⟩
    ·simp
    ·simp only;omega
 ·rw[if_neg ho];simp
end
theorem W_Of_ok {a:Int×Int} (h1:0≤a.1) (h2:a.1≤255) (h3:0≤a.2) (h4:a.2≤255):∃w h:Nat,(1≤w∧w≤5)∧(1≤h∧h≤5)∧law05_W_Of fuel a=some ((w:Int),(h:Int)):=by
 refine⟨1+ (a.1%5).toNat,1+ (a.2%5).toNat,by omega,by omega,?_⟩
 apply Ret.eq
 unfold law05_W_Of
 refine Ret_chk (by simp;omega) (Ret_chk (i64b_t (by omega) (by omega)) (Ret_chk (i64b_t (by omega) (by omega)) (Ret_chk (by simp;omega) (Ret_chk (i64b_t (by omega) (by omega)) (Ret_chk (i64b_t (by omega) (by omega)) (Ret_some ?_))))))
 exact Prod.ext (by simp only;omega) (by simp only;omega)
theorem lives_bind:Ret ((law07_lives fuel ()).bind fun r=>some r) fun x=>x=true:=by rw[lives07];exact Ret_some rfl
end X
end Go.Vm
namespace Go.Vm
namespace X
open W
def isU (u:UnT) (c:CreT):Bool:=decide (c.1=u.1)&&decide (c.2.1=u.2)
theorem isU_iff {u:UnT} {c:CreT}:isU u c=true↔(c.1,c.2.1)=u:=by
 simp[isU,Prod.ext_iff]
def kindIn (out:List CreT) (u:UnT):Int:=match out.find? (isU u) with
 | some c=>c.2.2
 | none=>0
def unitC (c:CreT):UnT:=(c.1,c.2.1)
abbrev UT:Ty:=.prod (.int .i64) (.int .u8)
abbrev K8:Ty:=.int .u8
theorem eqb_UT (a b:UnT):UT.eqb a b=true↔a=b:=by
 obtain⟨a1,a2⟩:=a
 obtain⟨b1,b2⟩:=b
 simp only[Ty.eqb]
 by_cases h1:a1=b1
 ·simp[h1]
 ·simp[h1]
theorem mget_put (u v:UnT) (k:Int):∀L:List (UnT×Int),mgetP UT K8 u (mputP UT K8 v k L)=if u=v then some k else mgetP UT K8 u L
 | []=>by
   show(bif UT.eqb u v then some k else none)=_
   by_cases h:u=v
   ·rw[if_pos h,(eqb_UT u v).2 h];rfl
   ·rw[if_neg h]
    cases hq:UT.eqb u v with
    | true=>exact absurd ((eqb_UT u v).1 hq) h
    | false=>rfl
 | a::L=>by
   show mgetP UT K8 u (bif UT.eqb v a.1 then(v,k)::L else a::mputP UT K8 v k L)=if u=v then some k else(bif UT.eqb u a.1 then some a.2 else mgetP UT K8 u L)
   cases hv:UT.eqb v a.1 with
   | true=>
     have hva:=(eqb_UT _ _).1 hv
     show(bif UT.eqb u v then some k else mgetP UT K8 u L)=_
     by_cases h:u=v
     ·rw[if_pos h,(eqb_UT u v).2 h];rfl
     ·rw[if_neg h]
      cases hq:UT.eqb u v with
      | true=>exact absurd ((eqb_UT u v).1 hq) h
      | false=>
        cases hq2:UT.eqb u a.1 with
        | true=>exact absurd (((eqb_UT u a.1).1 hq2).trans hva.symm) h
        | false=>rfl
   | false=>
     show(bif UT.eqb u a.1 then some a.2 else mgetP UT K8 u (mputP UT K8 v k L))=_
     cases hq2:UT.eqb u a.1 with
     | true=>
       have e:=(eqb_UT u a.1).1 hq2
       have:u≠v:=fun e2=>by
        have h1:=(eqb_UT v a.1).2 (e2▸e)
        rw[hv] at h1
        cases h1
       rw[if_neg this]
       rfl
     | false=>
       rw[cond_false,cond_false,mget_put u v k L]
structure OutOK (T:List LiT) (out:List CreT):Prop where
 nd:(out.map unitC).Nodup
 sub:∀c∈out,unitC c∈T.map (·.1)
 k1:∀c∈out,1≤c.2.2∧c.2.2≤3
theorem kindIn_mem {out:List CreT} (hn:(out.map unitC).Nodup) {c:CreT} (hc:c∈out):kindIn out (unitC c)=c.2.2:=by
 unfold kindIn
 cases h:out.find? (isU (unitC c)) with
 | none=>exact absurd (isU_iff.2 rfl) (List.find?_eq_none.1 h c hc)
 | some d=>
   have h1:=List.mem_of_find?_eq_some h
   have h2:=isU_iff.1 (List.find?_some h)
   obtain⟨i,hi,rfl⟩:=List.getElem_of_mem hc
   obtain⟨j,hj,rfl⟩:=List.getElem_of_mem h1
   have:=nodup_inj hn (i:=i) (j:=j) (by simpa using hi) (by simpa using hj) (by simpa[unitC] using h2.symm)
   subst this
   rfl
theorem kindIn_0 {T:List LiT} {out:List CreT} (ho:OutOK T out) {u:UnT}:kindIn out u=0↔u∉out.map unitC:=by
 unfold kindIn
 cases h:out.find? (isU u) with
 | none=>
   refine⟨fun _ hm=>?_,fun _=>rfl⟩
   obtain⟨c,hc,e⟩:=List.mem_map.1 hm
   exact absurd (isU_iff.2 e) (List.find?_eq_none.1 h c hc)
 | some c=>
   have h1:=List.mem_of_find?_eq_some h
   have h2:=isU_iff.1 (List.find?_some h)
   have:=ho.k1 c h1
   refine⟨fun e=>by simp only at e;omega,fun hn=>absurd (List.mem_map.2 ⟨c,h1,h2⟩) hn⟩
theorem kindIn_add {T:List LiT} {out:List CreT} (ho:OutOK T out) {v:UnT} {k:Int} (hv:kindIn out v=0) (u:UnT):kindIn (out++[(v.1,(v.2,k))]) u=if u=v then k else kindIn out u:=by
 have hnot:=(kindIn_0 ho).1 hv
 unfold kindIn
 rw[List.find?_append]
 by_cases h:u=v
 ·subst h
  have:out.find? (isU u)=none:=List.find?_eq_none.2 fun c hc hq=>hnot (List.mem_map.2 ⟨c,hc,isU_iff.1 hq⟩)
  rw[this,if_pos rfl]
  simp[isU]
 ·rw[if_neg h]
  cases hf:out.find? (isU u) with
  | some c=>rfl
  | none=>
    have:isU u (v.1,(v.2,k))=false:=by
     cases hq:isU u (v.1,(v.2,k)) with
     | false=>rfl
     | true=>exact absurd (isU_iff.1 hq).symm h
    simp[this]
theorem OutOK.add {T:List LiT} {out:List CreT} (ho:OutOK T out) {v:UnT} {k:Int} (hv:kindIn out v=0) (hT:v∈T.map (·.1)) (hk:1≤k∧k≤3):OutOK T (out++[(v.1,(v.2,k))]):=by
 have hnot:=(kindIn_0 ho).1 hv
 refine⟨?_,fun c hc=>?_,fun c hc=>?_⟩
 ·rw[List.map_append,List.nodup_append]
  refine⟨ho.nd,by simp,fun a ha b hb e=>?_⟩
  have:b=v:=by simpa[unitC] using hb
  subst this
  subst e
  exact hnot ha
 ·rcases List.mem_append.1 hc with hc | hc
  ·exact ho.sub c hc
  ·rw[List.mem_singleton.1 hc];exact hT
 ·rcases List.mem_append.1 hc with hc | hc
  ·exact ho.k1 c hc
  ·rw[List.mem_singleton.1 hc];exact hk
theorem OutOK.len {w h:Nat} {T:List LiT} (t:Tab w h T) (hw:w≤6) (hh:h≤6) {out:List CreT} (ho:OutOK T out):out.length≤1000:=by
 have:=ho.nd.length_le_of_subset (l₂:=T.map (·.1)) (fun u hu=>by
  obtain⟨c,hc,rfl⟩:=List.mem_map.1 hu
  exact ho.sub c hc)
 have:=t.len hw hh
 simp only[List.length_map] at *
 omega
def addU (k:Int):List CreT→List UnT→Option (List CreT)
 | out,[]=>some out
 | out,v::us=>if kindIn out v=0 then addU k (out++[(v.1,(v.2,k))]) us else none
noncomputable def patL (T:List LiT):Int→List CreT→List SgT→(List CreT) ⊕ (Int×Int)
 | _,out,[]=>.inl out
 | i,out,x::l=>if(unitsR T x).2=0 then(match addU x.1 out (unitsR T x).1 with
   | none=>.inr (i,8)
   | some out'=>patL T (i+1) out' l) else .inr (i,(unitsR T x).2)
theorem wk_mem {T:List LiT} {l:Int×Int} {tq:Int}:∀(n:Nat) (p:Int) (u:List UnT),wk T l tq n p=some u→∀v∈u,v∈T.map (·.1)
 | 0,_,_,h=>by cases h
 | n+1,p,u,h=>by
   simp only[wk] at h
   split at h
   ·cases h;intro v hv;cases hv
   ·cases hl:lkT T l p with
    | none=>rw[hl] at h;cases h
    | some x=>
      rw[hl] at h
      simp only at h
      split at h
      ·cases h
      ·obtain⟨v,hv,rfl⟩:=Option.map_eq_some_iff.1 h
       intro a ha
       rcases List.mem_cons.1 ha with rfl | ha
       ·exact List.mem_map.2 ⟨x,(lkT_some hl).1,rfl⟩
       ·exact wk_mem n _ v hv a ha
theorem units_mem {T:List LiT} {x:SgT}:∀v∈(unitsR T x).1,v∈T.map (·.1):=by
 unfold unitsR
 by_cases ho:OrdP x
 ·rw[if_pos ho]
  cases hu:wkS T x.2.1 x.2.2.2 x.2.2.1 with
  | none=>intro v hv;cases hv
  | some u=>exact wk_mem _ _ _ hu
 ·rw[if_neg ho];intro v hv;cases hv
theorem units_kind {T:List LiT} {x:SgT} (h:(unitsR T x).2=0):1≤x.1∧x.1≤3:=by
 unfold unitsR at h
 by_cases ho:OrdP x
 ·exact⟨ho.k1,ho.k3⟩
 ·rw[if_neg ho] at h;cases h
theorem out_nil {T:List LiT}:OutOK T []:=⟨List.nodup_nil,(fun c hc=>by cases hc),(fun c hc=>by cases hc)⟩
def filt (T:List LiT) (out:List CreT):List CreT:=T.filterMap fun x=>if kindIn out x.1=0 then none else some (x.1.1,(x.1.2,kindIn out x.1))
theorem filt_mem {T:List LiT} {out:List CreT} (ho:OutOK T out) (c:CreT):c∈filt T out↔c∈out:=by
 unfold filt
 rw[List.mem_filterMap]
 constructor
 ·rintro ⟨x,hx,e⟩
  split at e
  ·cases e
  ·rename_i h0
   have:∃d∈out,unitC d=x.1:=by
    have:x.1∈out.map unitC:=by
     apply Classical.byContradiction
     intro hn
     exact h0 ((kindIn_0 ho).2 hn)
    exact List.mem_map.1 this
   obtain⟨d,hd,ed⟩:=this
   have hk:=kindIn_mem ho.nd hd
   rw[ed] at hk
   rw[hk] at e
   cases e
   rw[←ed]
   exact hd
 ·intro hc
  obtain⟨x,hx,ex⟩:=List.mem_map.1 (ho.sub c hc)
  refine⟨x,hx,?_⟩
  have hk:=kindIn_mem ho.nd hc
  have:=ho.k1 c hc
  rw[ex,hk,if_neg (by omega)]
  rfl
theorem w64 {n:Int} (h:0≤n) (h2:n≤1000):RowKit.wrap64 n=n:=by unfold RowKit.wrap64;omega
theorem filt_sorted {w h:Nat} {T:List LiT} (t:Tab w h T) (out:List CreT):(filt T out).Pairwise fun a b=>cfC a b<0:=by
 have hp:T.Pairwise fun x y=>x∈T∧y∈T∧(x.1.1<y.1.1∨x.1.1=y.1.1∧x.1.2<y.1.2):=by
  have:=List.pairwise_map.1 t.asc
  rw[List.pairwise_iff_getElem] at this ⊢
  intro i j hi hj hij
  exact⟨List.getElem_mem _,List.getElem_mem _,this i j hi hj hij⟩
 refine List.Pairwise.filterMap _ (fun x y hxy a ha b hb=>?_) hp
 obtain⟨hx,hy,hlt⟩:=hxy
 have lx:=t.li hx
 have ly:=t.li hy
 split at ha<;>simp only[Option.mem_def,reduceCtorEq,Option.some.injEq] at ha
 split at hb<;>simp only[Option.mem_def,reduceCtorEq,Option.some.injEq] at hb
 subst ha hb
 rw[cfC_lt]
 simp only
 rw[w64 lx.e0 (by have:=lx.e2;omega),w64 ly.e0 (by have:=ly.e2;omega)]
 exact hlt
theorem filt_perm {w h:Nat} {T:List LiT} (t:Tab w h T) {out:List CreT} (ho:OutOK T out):out.Perm (filt T out):=by
 have n1:out.Nodup:=List.Pairwise.of_map _ (fun a b h e=>h (by rw[e])) ho.nd
 have n2:(filt T out).Nodup:=(filt_sorted t out).imp fun {a b} h e=>by subst e;rw[cfC_lt] at h;omega
 exact(List.perm_ext_iff_of_nodup n1 n2).2 fun c=>(filt_mem ho c).symm
theorem sort_filt {w h:Nat} {T:List LiT} (t:Tab w h T) {out:List CreT} (ho:OutOK T out):sortC cfC out=filt T out:=by
 have hs:=filt_sorted t out
 have hp:=(sortC_perm cfC out).trans (filt_perm t ho)
 refine sortC_uniq cfC (fun x hx y hy h1 h2=>?_) (sortC_sorted cfC swoC out) (hs.imp fun {a b} h c=>by rw[cfC_lt] at *;omega) hp
 have hx:=hp.subset hx
 have hy:=hp.subset hy
 obtain⟨i,hi,rfl⟩:=List.getElem_of_mem hx
 obtain⟨j,hj,rfl⟩:=List.getElem_of_mem hy
 rw[List.pairwise_iff_getElem] at hs
 rcases Nat.lt_trichotomy i j with g | g | g
 ·exact absurd (hs i j hi hj g) h1
 ·subst g;rfl
 ·exact absurd (hs j i hj hi g) h2
theorem okC_filt {w h:Nat} {T:List LiT} (t:Tab w h T) {out:List CreT} (ho:OutOK T out):okC out=true:=by
 unfold okC
 rw[sort_filt t ho]
 exact pw_dist (filt_sorted t out)
end X
end Go.Vm
namespace Go.Vm
namespace X
open W
section
variable {w h:Nat} {T:List LiT}
theorem wk_loop2 (hT:TB T) {l:Int×Int} {tq:Int} {β:Type} (bad:β) (K:List UnT→Option β)
  {step:((List UnT×Int)→Option β)→(List UnT×Int)→Option β}
  (hs:∀rec s,step rec s=bif(decide (s.2≠tq)) then(bif(!(mgetP KT VT ((l.1,l.2),s.2) (mapT T)).isSome) then(some bad) else(bif(decide (tq< ((mgetP KT VT ((l.1,l.2),s.2) (mapT T)).getD ((0,0),0)).2)) then(some bad) else(chk (lenOk (s.1.length+1)) (rec ((s.1++[(((mgetP KT VT ((l.1,l.2),s.2) (mapT T)).getD ((0,0),0)).1.1,((mgetP KT VT ((l.1,l.2),s.2) (mapT T)).getD ((0,0),0)).1.2)]),((mgetP KT VT ((l.1,l.2),s.2) (mapT T)).getD ((0,0),0)).2))))) else K s.1) (p:Int):
  loopF step fuel ([],p)=(match wkS T l tq p with
   | none=>some bad
   | some u=>K u):=by
 refine(loopF_eq (fun s:List UnT×Int=>(s.1=[]∨(0≤s.2∧s.2≤24∧s.1.length≤s.2.toNat))) (fun s=>mm s.2) (fun s=>(match wkS T l tq s.2 with
  | none=>some bad
  | some u=>K (s.1++u))) ?_ fuel ([],p) (.inl rfl) (by unfold mm;simp only[fuel];split<;>omega)).trans (by simp)
 rintro ⟨A,p⟩ rec hI hrec
 simp only at hI
 rw[hs,wkS_eq hT]
 simp only
 by_cases hp:p=tq
 ·simp only[hp,ne_eq,not_true_eq_false,decide_false,cond_false,if_true]
  rw[List.append_nil]
 ·simp only[hp,ne_eq,not_false_eq_true,decide_true,cond_true,if_false]
  rw[show(l.1,l.2)=l from rfl,mget_mapT]
  cases hl:lkT T l p with
  | none=>rfl
  | some x=>
    obtain⟨h1,h2,h3⟩:=lkT_some hl
    obtain⟨b1,b2,b3⟩:=hT x h1
    simp only[Option.map_some,Option.isSome_some,Bool.not_true,cond_false,Option.getD_some]
    by_cases hq:tq<x.2.2.2
    ·simp only[hq,decide_true,cond_true,if_true]
    ·simp only[hq,decide_false,cond_false,if_false]
     have hA:A.length≤p.toNat:=by rcases hI with e | ⟨_,_,e⟩<;>(try subst e)<;>(try simp)<;>omega
     rw[lenOk_t (by omega)]
     simp only[chk,cond_true]
     rw[hrec (A++[x.1],x.2.2.2) (.inr ⟨by simp only;omega,by simp only;omega,by simp only[List.length_append,List.length_singleton];omega⟩) (by
      unfold mm
      simp only
      rw[if_pos (by omega),if_pos (by omega)]
      omega)]
     simp only
     cases wkS T l tq x.2.2.2 with
     | none=>rfl
     | some u=>simp
theorem unitsR_no {x:SgT} (h:¬OrdP x):unitsR T x=([],1):=by unfold unitsR;rw[if_neg h]
theorem unitsR_yes {x:SgT} (h:OrdP x):unitsR T x=(match wkS T x.2.1 x.2.2.2 x.2.2.1 with
 | none=>([],7)
 | some u=>(u,0)):=by
 unfold unitsR
 rw[if_pos h]
 try (cases wkS T x.2.1 x.2.2.2 x.2.2.1<;>rfl)
theorem wkS_len (hT:TB T) {l:Int×Int} {tq p:Int} {u:List UnT} (h:wkS T l tq p=some u):u.length≤24:=by
 rcases wk_len hT _ _ _ h with rfl | ⟨g1,g2,g3⟩
 ·simp
 ·omega
abbrev PatT:=Int×(Int×List CreT)
noncomputable def patR (T:List LiT) (w h:Nat) (l:List SgT):PatT×(Int×Int):=match patL T 0 [] l with
 | .inl out=>(((w:Int),((h:Int),filt T out)),(0,0))
 | .inr e=>((0,(0,[])),e)
noncomputable def patF (T:List LiT) (w h:Nat) (l:List SgT) (i:Nat) (out:List CreT):PatT×(Int×Int):=match patL T (i:Int) out (l.drop i) with
 | .inl out=>(((w:Int),((h:Int),filt T out)),(0,0))
 | .inr e=>((0,(0,[])),e)
def MapOK (out:List CreT) (M:List (UnT×Int)):Prop:=∀u,(mgetP UT K8 u M).getD 0=kindIn out u
theorem MapOK.add {out:List CreT} (ho:OutOK T out) {M:List (UnT×Int)} (hM:MapOK out M) {v:UnT} {k:Int} (hv:kindIn out v=0):MapOK (out++[(v.1,(v.2,k))]) (mputP UT K8 v k M):=fun u=>by
 rw[mget_put,kindIn_add ho hv]
 by_cases e:u=v
 ·rw[if_pos e,if_pos e];rfl
 ·rw[if_neg e,if_neg e,hM u]
theorem drop_cons {α:Type} {l:List α} {i:Nat} (hi:i<l.length):l.drop i=l[i]::l.drop (i+1):=List.drop_eq_getElem_cons hi
theorem getD_at {α:Type} {l:List α} {i:Nat} {d:α} (hi:i<l.length):l.getD ((i:Int).toNat) d=l[i]:=by
 rw[Int.toNat_natCast,List.getD_eq_getElem?_getD,List.getElem?_eq_getElem hi];rfl
theorem Pattern_ok (t:Tab w h T) (hw:1≤w∧w≤6) (hh:1≤h∧h≤6) {l:List SgT} (hl:l.length≤1000000):segments_Pattern fuel (((w:Int),(h:Int)),l)=some (patR T w h l):=by
 have hT:=t.tb hw.2 hh.2
 unfold segments_Pattern
 simp only
 rw[sheet_Check_ok hw hh,Option.bind_some]
 simp only[ne_eq,not_true_eq_false,decide_false,cond_false]
 rw[pieces_ok t hw hh,Option.bind_some]
 refine(loopF_eq (fun s:List CreT×(Int×((Int×(Int×Unit))×List (UnT×Int)))=>∃i:Nat,s.2.1=(i:Int)∧i≤l.length∧OutOK T s.1∧MapOK s.1 s.2.2.2) (fun s=>l.length-s.2.1.toNat) (fun s=>some (patF T w h l s.2.1.toNat s.1)) ?_ fuel _ ⟨0,rfl,Nat.zero_le _,out_nil,fun u=>rfl⟩ (by simp only[fuel];omega)).trans rfl
 rintro ⟨out,i',vv,M⟩ rec ⟨i,hi',hi,ho,hM⟩ hrec
 simp only at hi' ho hM
 subst hi'
 simp only
 have hob:=ho.len t hw.2 hh.2
 by_cases hlt:(i:Int)< ((l.length:Nat):Int)
 ·have hi2:i<l.length:=by omega
  simp only[hlt,decide_true,cond_true]
  rw[inb_t (by omega) hlt]
  simp only[chk,cond_true]
  rw[getD_at hi2]
  generalize hx:l[i]=x
  rw[show(x.1,((x.2.1.1,x.2.1.2),(x.2.2.1,x.2.2.2)))=x from rfl]
  obtain⟨b,eb,hb⟩:=ordinary_ok x
  rw[eb,Option.bind_some]
  have hdrop:l.drop i=x::l.drop (i+1):=by rw[drop_cons hi2,hx]
  cases b with
  | false=>
    have hno:¬OrdP x:=fun h=>by have:=hb.2 h;cases this
    simp only[Bool.not_false,cond_true]
    unfold patF
    rw[Int.toNat_natCast,hdrop]
    simp only[patL]
    rw[unitsR_no hno]
    rfl
  | true=>
    have hyes:=hb.1 rfl
    simp only[Bool.not_true,cond_false]
    refine(wk_loop2 hT (l:=x.2.1) (tq:=x.2.2.2) (((0,(0,[])),((i:Int),7)):PatT×(Int×Int)) (fun A=>(chk (bnb 0 ((A.length:Nat):Int) A.length&&decide (((A.length:Nat):Int)≤((A.length:Nat):Int))&&decide (((A.length:Nat):Int)≤((A.length:Nat):Int))) (loopF (fun rec6 (x6:((List (Int×(Int×Int)))×(Int×((Int×(Int×Unit))×(List ((Int×Int)×Int))))))=>bif(decide (x6.2.1< ((A.length:Nat):Int))) then(chk (inb x6.2.1 A.length) (bif(decide (((mgetP (.prod (.int .i64) (.int .u8)) (.int .u8) ((A.getD (0+x6.2.1.toNat) (0,0)).1,(A.getD (0+x6.2.1.toNat) (0,0)).2) x6.2.2.2).getD 0)≠0)) then(some ((0,(0,[])),((i:Int),8))) else(chk (lenOk (x6.1.length+1)) (chk (i64b (x6.2.1+1)) (rec6 ((x6.1++[((A.getD (0+x6.2.1.toNat) (0,0)).1,((A.getD (0+x6.2.1.toNat) (0,0)).2,x.1))]),((x6.2.1+1),((x6.2.2.1.1,(x6.2.2.1.2.1,())),(mputP (.prod (.int .i64) (.int .u8)) (.int .u8) ((A.getD (0+x6.2.1.toNat) (0,0)).1,(A.getD (0+x6.2.1.toNat) (0,0)).2) x.1 x6.2.2.2))))))))) else(chk (i64b ((i:Int)+1)) (rec (x6.1,(((i:Int)+1),((x6.2.2.1.1,(x6.2.2.1.2.1,())),x6.2.2.2)))))) fuel (out,(0,((vv.1,(vv.2.1,())),M)))))) (fun rec s=>rfl) x.2.2.1).trans ?_
    have hU:=unitsR_yes (T:=T) hyes
    have hW:∀u,wkS T x.2.1 x.2.2.2 x.2.2.1=some u→unitsR T x=(u,0):=fun u hu=>by rw[hU,hu]
    cases hu:wkS T x.2.1 x.2.2.2 x.2.2.1 with
    | none=>
      rw[hu] at hU
      simp only at hU ⊢
      unfold patF
      rw[Int.toNat_natCast,hdrop]
      simp only[patL]
      rw[hU]
      rfl
    | some A=>
      have hUA:=hW A hu
      have hA24:=wkS_len hT hu
      have hAm:∀v∈A,v∈T.map (·.1):=by have:=units_mem (T:=T) (x:=x);rw[hUA] at this;exact this
      simp only
      have e1:bnb 0 ((A.length:Nat):Int) A.length=true:=bnb_iff.2 ⟨by omega,by omega,by omega⟩
      simp only[e1,Int.le_refl,decide_true,Bool.and_self,chk,cond_true]
      have hpat:some (patF T w h l i out)=(match addU x.1 out A with
        | none=>some (((0,(0,[])),((i:Int),8)):PatT×(Int×Int))
        | some out'=>some (patF T w h l (i+1) out')):=by
       unfold patF
       rw[hdrop]
       simp only[patL]
       rw[hUA]
       simp only[if_true]
       cases addU x.1 out A with
       | none=>rfl
       | some o=>rw[show((i+1:Nat):Int)=(i:Int)+1 by omega]
      rw[Int.toNat_natCast,hpat]
      refine(loopF_eq (fun s:List CreT×(Int×((Int×(Int×Unit))×List (UnT×Int)))=>∃j:Nat,s.2.1=(j:Int)∧j≤A.length∧OutOK T s.1∧MapOK s.1 s.2.2.2) (fun s=>A.length-s.2.1.toNat) (fun s=>(match addU x.1 s.1 (A.drop s.2.1.toNat) with
       | none=>some (((0,(0,[])),((i:Int),8)):PatT×(Int×Int))
       | some out'=>some (patF T w h l (i+1) out'))) ?_ fuel _ ⟨0,rfl,Nat.zero_le _,ho,hM⟩ (by simp only[fuel];omega)).trans (by simp)
      rintro ⟨o6,j',v6,M6⟩ rec6 ⟨j,hj',hj,ho6,hM6⟩ hrec6
      simp only at hj' ho6 hM6
      subst hj'
      simp only
      have ho6b:=ho6.len t hw.2 hh.2
      by_cases hjl:(j:Int)< ((A.length:Nat):Int)
      ·have hj2:j<A.length:=by omega
       simp only[hjl,decide_true,cond_true]
       rw[inb_t (by omega) hjl]
       simp only[chk,cond_true]
       rw[Nat.zero_add,getD_at hj2,Int.toNat_natCast,drop_cons hj2]
       generalize hv:A[j]=v
       have hvT:v∈T.map (·.1):=hAm v (by rw[←hv];exact List.getElem_mem _)
       rw[show(v.1,v.2)=v from rfl,hM6 v]
       simp only[addU]
       by_cases h0:kindIn o6 v=0
       ·simp only[h0,ne_eq,not_true_eq_false,decide_false,cond_false,if_true]
        rw[lenOk_t (by omega),i64b_t (by omega) (by omega)]
        simp only[chk,cond_true]
        rw[hrec6 _ ⟨j+1,by simp,hj2,ho6.add h0 hvT ⟨hyes.k1,hyes.k3⟩,hM6.add ho6 h0⟩ (by simp only;omega)]
        simp only
        rw[show((j:Int)+1).toNat=j+1 by omega]
       ·simp only[h0,ne_eq,not_false_eq_true,decide_true,cond_true,if_false]
      ·have hj2:j=A.length:=by omega
       subst hj2
       simp only[hjl,decide_false,cond_false]
       rw[i64b_t (by omega) (by omega)]
       simp only[chk,cond_true]
       rw[Int.toNat_natCast,List.drop_length]
       simp only[addU]
       rw[hrec _ ⟨i+1,by simp,hi2,ho6,hM6⟩ (by simp only;omega)]
       simp only
       rw[show((i:Int)+1).toNat=i+1 by omega]
 ·have hi2:i=l.length:=by omega
  subst hi2
  simp only[hlt,decide_false,cond_false]
  unfold slices_SortFunc_patterns_Crease patF
  simp only
  rw[show(List.length (α:=CreT) out).ble 1000000=true by rw[ble_dec];exact decide_eq_true (by omega),okC_filt t ho,sort_filt t ho]
  simp only[Bool.and_self,cond_true,Option.map_some,Option.bind_some]
  have e1:bnb 0 (((filt T out).length:Nat):Int) (filt T out).length=true:=bnb_iff.2 ⟨by omega,by omega,by omega⟩
  simp only[e1,Int.le_refl,decide_true,Bool.and_self,chk,cond_true,List.take_length,capIs,Nat.beq_refl]
  rw[Int.toNat_natCast,List.drop_length]
  simp only[patL]
end
end X
end Go.Vm
namespace Go.Vm
namespace X
open W
def withR:List UnT→List Int→List CreT
 | u::U,k::A=>if k=0 then withR U A else(u.1,(u.2,k))::withR U A
 | _,_=>[]
section
variable {w h:Nat} {T:List LiT}
theorem With_ok (t:Tab w h T) (hw:1≤w∧w≤6) (hh:1≤h∧h≤6) {A:List Int} (hA:A.length≤1000000):ref06_With fuel (((w:Int),(h:Int)),A)=some ((w:Int),((h:Int),withR (T.map (·.1)) A)):=by
 have hlen:=t.len hw.2 hh.2
 unfold ref06_With
 simp only
 rw[t.un,Option.bind_some]
 have hUl:(T.map (·.1)).length≤1000:=by simpa using hlen
 generalize T.map (·.1)=U at hUl
 refine(loopF_eq (fun s:Int×(Int×(Int×List CreT))=>∃i:Nat,s.1=(i:Int)∧i≤U.length∧s.2.2.2.length≤i∧s.2.1=(w:Int)∧s.2.2.1=(h:Int)) (fun s=>U.length-s.1.toNat) (fun s=>some ((w:Int),((h:Int),s.2.2.2++withR (U.drop s.1.toNat) (A.drop s.1.toNat)))) ?_ fuel _ ⟨0,rfl,Nat.zero_le _,Nat.le_refl _,rfl,rfl⟩ (by simp only[fuel];omega)).trans (by simp)
 rintro ⟨i',w',h',acc⟩ rec ⟨i,hi',hi,hacc,hw',hh'⟩ hrec
 simp only at hi' hacc hw' hh'
 subst hi' hw' hh'
 simp only
 by_cases hlt:(i:Int)< ((U.length:Nat):Int)
 rotate_left
 ·have:i=U.length:=by omega
  subst this
  simp only[hlt,decide_false,cond_false]
  rw[Int.toNat_natCast,List.drop_length]
  simp[withR]
 have hi2:i<U.length:=by omega
 simp only[hlt,decide_true,cond_true]
 by_cases hla:(i:Int)< ((A.length:Nat):Int)
 rotate_left
 ·simp only[hla,decide_false,cond_false]
  rw[Int.toNat_natCast,show A.drop i=[] from List.drop_eq_nil_of_le (by omega)]
  cases U.drop i<;>simp[withR]
 have hi3:i<A.length:=by omega
 simp only[hla,decide_true,cond_true]
 rw[inb_t (by omega) hla,inb_t (by omega) hlt]
 simp only[chk,cond_true]
 rw[getD_at hi3,getD_at hi2,Int.toNat_natCast,drop_cons hi2,drop_cons hi3]
 simp only[withR]
 by_cases h0:A[i]=0
 ·simp only[h0,ne_eq,not_true_eq_false,decide_false,cond_false,if_true]
  rw[i64b_t (by omega) (by omega)]
  simp only[cond_true]
  rw[hrec _ ⟨i+1,by simp,hi2,by simp only;omega,rfl,rfl⟩ (by simp only;omega)]
  simp only
  rw[show((i:Int)+1).toNat=i+1 by omega]
 ·simp only[h0,ne_eq,not_false_eq_true,decide_true,cond_true,if_false]
  rw[lenOk_t (by omega),i64b_t (by omega) (by omega)]
  simp only[cond_true]
  rw[hrec _ ⟨i+1,by simp,hi2,by simp only[List.length_append,List.length_singleton];omega,rfl,rfl⟩ (by simp only;omega)]
  simp only
  rw[show((i:Int)+1).toNat=i+1 by omega,List.append_assoc]
  rfl
theorem withR_map (f:UnT→Int):∀T:List LiT,withR (T.map (·.1)) (T.map fun x=>f x.1)=T.filterMap fun x=>if f x.1=0 then none else some (x.1.1,(x.1.2,f x.1))
 | []=>rfl
 | x::T=>by
   simp only[List.map_cons,withR,List.filterMap_cons]
   rw[withR_map f T]
   by_cases h:f x.1=0
   ·simp[h]
   ·simp[h]
theorem refUnit_ok (t:Tab w h T) (hw:1≤w∧w≤6) (hh:1≤h∧h≤6) {j:Nat} (hj:j<T.length):ref06_Unit fuel (((w:Int),(h:Int)),T[j].1)=some (j:Int):=by
 have hlen:=t.len hw.2 hh.2
 have hx:=List.getElem_mem hj
 have li:=t.li hx
 have l1:=li.u0;have l2:=li.u1;have l3:=li.e0;have l4:=li.e2
 have hrn:=List.all_eq_true.1 t.rn _ hx
 unfold rnOK at hrn
 have hwh:4* (w:Int)*h≤4*6*6:=by
  have:w*h≤6*6:=Nat.mul_le_mul hw.2 hh.2
  have e:(4* (w:Int)*h)=4* ((w*h:Nat):Int):=by rw[Int.natCast_mul,Int.mul_assoc]
  omega
 unfold ref06_Unit
 simp only
 have n1:¬(T[j].1.1<0):=by omega
 have n2:¬(4* (w:Int)*h≤T[j].1.1):=by omega
 have n3:¬(T[j].1.2<0):=by omega
 have n4:¬((2:Int)<T[j].1.2):=by omega
 have hw2:(0:Int)≤4* (w:Int)*h:=by omega
 simp only[n1,decide_false,cond_false]
 rw[i64b_t (by omega) (by omega),i64b_t (by omega) (by omega)]
 simp only[chk,cond_true,n2,n3,n4,decide_false,cond_false]
 split at hrn<;>try (cases hrn;done)
 rename_i n hn
 rw[hn,Option.bind_some,t.un,Option.bind_some]
 have hgt:T[j].1.1<n:=by simpa using hrn
 apply Ret.eq
 refine Ret_loop (fun i:Int=>0≤i∧i≤j) (fun i=>j+1-i.toNat) ?_ fuel 0 ⟨by omega,by omega⟩ (by simp only[fuel];omega)
 rintro i' rec ⟨i0,i1⟩ hrec
 obtain⟨i,rfl⟩:∃i:Nat,i'=(i:Int):=⟨i'.toNat,by omega⟩
 have hi:i<T.length:=by omega
 have hg:(T.map (·.1)).getD ((i:Int).toNat) (0,0)=T[i].1:=by
  rw[Int.toNat_natCast,List.getD_eq_getElem?_getD,List.getElem?_map,List.getElem?_eq_getElem hi];rfl
 rw[hg]
 have hin:inb (i:Int) (T.map (·.1)).length=true:=inb_t (by omega) (by rw[List.length_map];omega)
 refine Ret_dec (fun _=>?_) fun g=>absurd (show(i:Int)< (((T.map (·.1)).length:Nat):Int) by rw[List.length_map];omega) g
 refine Ret_dec (fun _=>Ret_chk hin ?_) fun g=>absurd (show(0:Int)≤n by omega) g
 have hmin:min T[j].1.1 n=T[j].1.1:=by omega
 rw[hmin]
 have next:T[i].1≠T[j].1→Ret (chk (i64b ((i:Int)+1)) (rec ((i:Int)+1))) fun x=>x=(j:Int):=fun hne=>by
  have:i≠j:=fun e=>by subst e;exact hne rfl
  exact Ret_chk (i64b_t (by omega) (by omega)) (hrec _ ⟨by omega,by omega⟩ (by omega))
 have lii:=t.li (List.getElem_mem hi)
 have:=lii.e0;have:=lii.e2
 refine Ret_dec (fun g1=>Ret_chk hin (Ret_chk (i64b_t (by omega) (by omega)) (Ret_dec (fun g2=>Ret_some ?_) fun g2=>next fun e=>g2 (by rw[e])))) fun g1=>next fun e=>g1 (by rw[e])
 have:=t.unitInj (List.getElem_mem hi) hx (Prod.ext g1 g2)
 have hij:i=j:=by
  have hnd:=t.ndU
  exact nodup_inj hnd (i:=i) (j:=j) (by simpa using hi) (by simpa using hj) (by simp[this])
 rw[hij]
theorem refPattern_ok (t:Tab w h T) (hw:1≤w∧w≤6) (hh:1≤h∧h≤6) {l:List SgT} (hl:l.length≤1000000):ref07_Pattern fuel (((w:Int),(h:Int)),l)=some (patR T w h l):=by
 have hT:=t.tb hw.2 hh.2
 have hlen:=t.len hw.2 hh.2
 unfold ref07_Pattern
 simp only
 rw[t.un,Option.bind_some]
 have hUl:(T.map (·.1)).length=T.length:=by simp
 have e1:(decide (0≤(((T.map (·.1)).length:Nat):Int))&&decide ((((T.map (·.1)).length:Nat):Int)≤(((T.map (·.1)).length:Nat):Int))&&decide ((((T.map (·.1)).length:Nat):Int)≤1000000))=true:=by
  rw[hUl]
  simp only[Bool.and_eq_true,decide_eq_true_eq]
  omega
 apply Ret.eq
 refine Ret_chk e1 ?_
 refine Ret_loop (fun s:Int×((Int×(Int×Unit))×(List Int×Option Nat))=>∃(i:Nat) (out:List CreT),s.1=(i:Int)∧i≤l.length∧OutOK T out∧s.2.2.1=(T.map fun x=>kindIn out x.1)∧patF T w h l i out=patR T w h l) (fun s=>l.length-s.1.toNat) ?_ fuel _ ⟨0,[],rfl,Nat.zero_le _,out_nil,?_,rfl⟩ (by simp only[fuel];omega)
 rotate_left
 ·simp only[List.length_map]
  clear e1 hT hlen hUl t
  induction T with
  | nil=>rfl
  | cons x T ih=>simp only[List.length_cons,List.replicate_succ,List.map_cons,ih];rfl
 rintro ⟨i',vv,A,cp⟩ rec ⟨i,out,hi',hi,ho,hA,hF⟩ hrec
 simp only at hi' hA
 subst hi' hA
 simp only
 refine Ret_dec (fun hlt=>?_) fun hge=>?_
 ·have hi2:i<l.length:=by omega
  refine Ret_chk (inb_t (by omega) hlt) ?_
  rw[getD_at hi2]
  generalize hx:l[i]=x
  rw[show(x.1,((x.2.1.1,x.2.1.2),(x.2.2.1,x.2.2.2)))=x from rfl,refUnits_ok t hw hh,Option.bind_some]
  have hdrop:l.drop i=x::l.drop (i+1):=by rw[drop_cons hi2,hx]
  have hF':(match patL T (i:Int) out (l.drop i) with
   | .inl out=>((((w:Int),((h:Int),filt T out)),(0,0)):PatT×(Int×Int))
   | .inr e=>((0,(0,[])),e))=patR T w h l:=hF
  rw[hdrop] at hF'
  simp only[patL] at hF'
  refine Ret_dec (fun hne=>?_) fun h0=>?_
  ·rw[if_neg hne] at hF'
   exact Ret_some hF'
  ·have h0:(unitsR T x).2=0:=by simpa using h0
   rw[if_pos h0] at hF'
   have hk:=units_kind h0
   have hm:=units_mem (T:=T) (x:=x)
   have hle:=units_le hT x
   generalize (unitsR T x).1=us at hF' hm hle
   refine Ret_loop (fun s:Int×((Int×(Int×Unit))×(List Int×Option Nat))=>∃(j:Nat) (o6:List CreT),s.1=(j:Int)∧j≤us.length∧OutOK T o6∧s.2.2.1=(T.map fun x=>kindIn o6 x.1)∧(match addU x.1 o6 (us.drop j) with
    | none=>(((0,(0,[])),((i:Int),8)):PatT×(Int×Int))
    | some out'=>patF T w h l (i+1) out')=patR T w h l) (fun s=>us.length-s.1.toNat) ?_ fuel _ ⟨0,out,rfl,Nat.zero_le _,ho,rfl,?_⟩ (by simp only[fuel];omega)
   rotate_left
   ·rw[List.drop_zero,←hF']
    cases addU x.1 out us with
    | none=>rfl
    | some o=>
      simp only
      unfold patF
      rw[show((i+1:Nat):Int)=(i:Int)+1 by omega]
      try (cases patL T ((i:Int)+1) o (l.drop (i+1))<;>rfl)
   rintro ⟨j',v6,A6,c6⟩ rec6 ⟨j,o6,hj',hj,ho6,hA6,hF6⟩ hrec6
   simp only at hj' hA6
   subst hj' hA6
   simp only
   refine Ret_dec (fun hjl=>?_) fun hjg=>?_
   ·have hj2:j<us.length:=by omega
    have hin:inb (j:Int) us.length=true:=inb_t (by omega) hjl
    rw[drop_cons hj2] at hF6
    rw[getD_at hj2]
    obtain⟨y,hy,ey⟩:=List.mem_map.1 (hm us[j] (List.getElem_mem hj2))
    obtain⟨q,hq,rfl⟩:=List.getElem_of_mem hy
    have ey:T[q].1=us[j]:=ey
    generalize us[j]=v at hF6 ey ⊢
    subst ey
    have liq:=t.li hy
    have:=liq.e0;have:=liq.e2
    simp only[addU] at hF6
    refine Ret_chk hin (Ret_chk hin (Ret_chk (i64b_t (by omega) (by omega)) ?_))
    rw[show((T[q].1.1,T[q].1.2):Int×Int)=T[q].1 from rfl,refUnit_ok t hw hh hq,Option.bind_some]
    have hqi:inb (q:Int) (T.map fun x=>kindIn o6 x.1).length=true:=inb_t (by omega) (by rw[List.length_map];omega)
    have hgq:(T.map fun x=>kindIn o6 x.1).getD ((q:Int).toNat) 0=kindIn o6 T[q].1:=by
     rw[Int.toNat_natCast,List.getD_eq_getElem?_getD,List.getElem?_map,List.getElem?_eq_getElem hq];rfl
    refine Ret_chk hqi ?_
    rw[hgq]
    refine Ret_dec (fun hne=>?_) fun h00=>?_
    ·rw[if_neg hne] at hF6
     exact Ret_some hF6
    ·have h00:kindIn o6 T[q].1=0:=by simpa using h00
     rw[if_pos h00] at hF6
     refine Ret_chk (inb_t (by omega) hlt) (Ret_chk hqi (Ret_chk (i64b_t (by omega) (by omega)) (hrec6 _ ⟨j+1,o6++[(T[q].1.1,(T[q].1.2,x.1))],by simp,hj2,ho6.add h00 (List.mem_map.2 ⟨_,hy,rfl⟩) hk,?_,hF6⟩ (by simp only;omega))))
     simp only
     rw[Int.toNat_natCast]
     refine List.ext_getElem (by simp) fun p hp1 hp2=>?_
     rw[List.getElem_set]
     simp only[List.getElem_map]
     have hp:p<T.length:=by simpa using hp2
     have ek:=kindIn_add ho6 (v:=T[q].1) (k:=x.1) h00 T[p].1
     refine Eq.trans ?_ ek.symm
     by_cases e:q=p
     ·subst e
      rw[if_pos rfl,if_pos rfl]
     ·rw[if_neg e,if_neg]
      intro e2
      have:=t.unitInj (List.getElem_mem hp) hy e2
      exact e (nodup_inj t.ndU (i:=q) (j:=p) (by simpa using hq) (by simpa using hp) (by simp[this]))
   ·have hj2:j=us.length:=by omega
    subst hj2
    rw[List.drop_length] at hF6
    exact Ret_chk (i64b_t (by omega) (by omega)) (hrec _ ⟨i+1,o6,by simp,hi2,ho6,rfl,hF6⟩ (by simp only;omega))
 ·have hi2:i=l.length:=by omega
  subst hi2
  rw[With_ok t hw hh (by simp;omega),Option.bind_some]
  refine Ret_some ?_
  rw[←hF]
  unfold patF
  rw[List.drop_length]
  simp only[patL]
  have:=withR_map (kindIn out) T
  rw[this]
  rfl
end
end X
end Go.Vm
namespace Go.Vm
namespace X
open W
theorem tm_b (x:Int) {n:Int} (hn:0<n): -n<x.tmod n∧x.tmod n<n:=⟨Int.lt_tmod_of_pos x hn,Int.tmod_lt_of_pos x hn⟩
theorem G_Of_ok (x:Int×(Int×(Int×(Int×Int)))):∃r,law07_G_Of fuel x=some r:=by
 refine Exists.imp (fun _ h=>h) (?_:∃r,_)
 have a1:=tm_b x.2.2.2.1 (n:=12) (by omega)
 have a2:=tm_b x.2.2.1 (n:=9) (by omega)
 have a3:=tm_b x.2.2.2.2 (n:=10) (by omega)
 unfold law07_G_Of
 rw[i64b_t (by omega) (by omega),i64b_t (by omega) (by omega),i64b_t (by omega) (by omega),i64b_t (by omega) (by omega),i64b_t (by omega) (by omega)]
 exact⟨_,rfl⟩
theorem Differ_self {p:PatT} (h:p.2.2.length≤1000000):ref06_Differ fuel (p,p)=some 0:=by
 apply Ret.eq
 unfold ref06_Differ
 refine Ret_bif (fun g=>by simp at g) fun _=>?_
 refine Ret_dec (fun g=>absurd rfl g) fun _=>?_
 refine Ret_loop (fun i:Int=>0≤i∧i≤p.2.2.length) (fun i=>p.2.2.length-i.toNat) ?_ fuel 0 ⟨by omega,by omega⟩ (by simp only[fuel];omega)
 rintro i rec ⟨i0,i1⟩ hrec
 refine Ret_dec (fun hlt=>?_) fun _=>Ret_some rfl
 have hin:=inb_t i0 hlt
 have hlt:i< (p.2.2.length:Int):=hlt
 refine Ret_chk hin (Ret_chk hin ?_)
 refine Ret_bif (fun g=>by simp at g) fun _=>?_
 exact Ret_chk (i64b_t (by omega) (by omega)) (hrec _ ⟨by omega,by omega⟩ (by omega))
theorem patR_len (T:List LiT) (w h:Nat) (l:List SgT):(patR T w h l).1.2.2.length≤T.length:=by
 unfold patR
 split
 ·simp only[filt]
  exact List.length_filterMap_le _ _
 ·simp
theorem SegmentsPattern_true (tab:∀w h:Nat,(1≤w∧w≤5)→(1≤h∧h≤5)→∃T,Tab w h T) {a:Int×Int} {x:List (Int×(Int×(Int×(Int×Int))))} (h1:0≤a.1) (h2:a.1≤255) (h3:0≤a.2) (h4:a.2≤255):
  law07_SegmentsPattern fuel (a,x)=some true:=by
 obtain⟨w,h,hw,hh,e⟩:=W_Of_ok h1 h2 h3 h4
 obtain⟨T,t⟩:=tab w h hw hh
 have hw':1≤w∧w≤6:=by omega
 have hh':1≤h∧h≤6:=by omega
 have hlen:=t.len hw'.2 hh'.2
 apply Ret.eq
 unfold law07_SegmentsPattern
 refine Ret_dec (fun _=>Ret_some rfl) fun hx=>?_
 have hx:x.length≤12:=by simp only at hx;omega
 rw[show(a.1,a.2)=a from rfl,e,Option.bind_some]
 refine Ret_loop (fun s:List SgT×Int=>0≤s.2∧s.2≤x.length∧s.1.length=s.2.toNat) (fun s=>x.length-s.2.toNat) ?_ fuel ([],0) ⟨by simp,by simp,rfl⟩ (by simp only[fuel];omega)
 rintro ⟨l,i⟩ rec ⟨i0,i1,hl⟩ hrec
 simp only at i0 i1 hl
 refine Ret_dec (fun hlt=>?_) fun _=>?_
 ·simp only at hlt
  refine Ret_chk (inb_t i0 hlt) ?_
  obtain⟨r,hr⟩:=G_Of_ok ((x.getD i.toNat (0,(0,(0,(0,0))))).1,((x.getD i.toNat (0,(0,(0,(0,0))))).2.1,((x.getD i.toNat (0,(0,(0,(0,0))))).2.2.1,((x.getD i.toNat (0,(0,(0,(0,0))))).2.2.2.1,(x.getD i.toNat (0,(0,(0,(0,0))))).2.2.2.2))))
  rw[hr,Option.bind_some]
  refine Ret_chk (lenOk_t (by simp only;omega)) (Ret_chk (i64b_t (by simp only;omega) (by simp only;omega)) (hrec _ ⟨by simp only;omega,by simp only;omega,?_⟩ (by simp only;omega)))
  simp only[List.length_append,List.length_singleton]
  omega
 ·have hl2:l.length≤1000000:=by omega
  have e1:=Pattern_ok t hw' hh' (l:=l) hl2
  have e2:=refPattern_ok t hw' hh' (l:=l) hl2
  rw[e1,Option.bind_some,e2,Option.bind_some]
  refine Ret_dec (fun _=>?_) fun g=>absurd rfl g
  refine Ret_dec (fun _=>?_) fun g=>absurd rfl g
  have e3:=Differ_self (p:=(patR T w h l).1) (by have:=patR_len T w h l;omega)
  rw[show(((patR T w h l).1.1,((patR T w h l).1.2.1,(patR T w h l).1.2.2)):PatT)=(patR T w h l).1 from rfl,e3,Option.bind_some]
  exact Ret_dec (fun _=>lives_bind) fun g=>absurd rfl g
end X
end Go.Vm
